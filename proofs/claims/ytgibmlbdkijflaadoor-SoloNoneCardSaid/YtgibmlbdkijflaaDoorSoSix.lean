/- The document's ledger: Do. -/
import Derived.Test.YtgibmlbdkijflaaDoorSoFive
import Derived.Test.YtgibmlbdkijflaaDoorWFour
set_option linter.unusedVariables false
set_option linter.unusedSimpArgs false
set_option maxRecDepth 100000
namespace Go.Proofs.YtgibmlbdkijflaaDoor.So
open Go.RowKit Go.Proofs.YtgibmlbdkijflaaDoorW.PrintWords Go.Proofs.YtgibmlbdkijflaaDoorW.PrintLast Go.Proofs.YtgibmlbdkijflaaDoorW.PrintMore
open Ow
open Mo (Aside Cx U64 I64 ints least run cutW plusW New below_low tn1 meas1 w64 i1 wrapE)
open QGc (checkC)
open Graph (checkG Gv)
open Mo (Ev)
theorem r_prod {w0 w : World} {B : Nat} {k : Rk} {cx : Cx} {lp : Lp} {st : Ls} {i : Nat} (h : Rm w0.heap.size w B k cx lp st i) (h0 : Below w0.heap.size w0 w) (hi : i < 1000) (t : Nat) (ht : t < cx.prod) (c : Cl) (hc : codeL cx st t c = 0) (A : Option Addr) (C : Nat) (hdF : Kd.F (Kd.int .i64) w (fun q => ¬ OwnB (rowsR k cx st) B q) A c.data.length c.data) (hdl : c.data.length ≤ C) :
    Calls Tryd.prog 47 #[.pointer (some ⟨B, 0, none⟩), .int .i64 (t : Int), .agg #[.int .i64 c.op, .int .i64 c.n, .slice A c.data.length C]] w fun r W => EPostR w0 w B k cx lp st (doL cx lp st t c) (i + 1) (callL cx lp st t c).2 r W := by
  obtain ⟨op, cn, cd⟩ := c
  have e : callL cx lp st t ⟨op, cn, cd⟩ = produceL lp st t ⟨op, cn, cd⟩ := by
    unfold callL
    rw [if_neg (fun h => h hc), if_pos ht]
  unfold doL
  rw [e]
  rcases code_prod ht hc with ⟨h1 | h1, _⟩ | ⟨h1, _⟩
  · exact r_prod1 h h0 hi t ht op cn cd h1 hc A C
  · exact r_prod5 h h0 hi t ht op cn cd h1 hc A C hdF hdl
  · exact r_prod2 h h0 hi t ht op cn cd h1 hc A C
theorem r_cons {w0 w : World} {B : Nat} {k : Rk} {cx : Cx} {lp : Lp} {st : Ls} {i : Nat} (h : Rm w0.heap.size w B k cx lp st i) (h0 : Below w0.heap.size w0 w) (hi : i < 1000) (t : Nat) (ht : t < cx.prod + cx.up.length) (hp : ¬ t < cx.prod) (c : Cl) (hc : codeL cx st t c = 0) (A : Option Addr) (C : Nat) :
    Calls Tryd.prog 48 #[.pointer (some ⟨B, 0, none⟩), .int .i64 (t : Int), .agg #[.int .i64 c.op, .int .i64 c.n, .slice A c.data.length C]] w fun r W => EPostR w0 w B k cx lp st (doL cx lp st t c) (i + 1) (callL cx lp st t c).2 r W := by
  obtain ⟨kc, rfl⟩ : ∃ kc, t = cx.prod + kc := ⟨t - cx.prod, by omega⟩
  have hk : kc < cx.up.length := by omega
  obtain ⟨op, cn, cd⟩ := c
  have e : callL cx lp st (cx.prod + kc) ⟨op, cn, cd⟩ = consumeL cx lp st kc ⟨op, cn, cd⟩ := by
    unfold callL
    rw [if_neg (fun h => h hc), if_neg hp, Nat.add_sub_cancel_left]
  unfold doL
  rw [e]
  rcases code_cons hp hc with ⟨h1, _⟩ | ⟨h1, _⟩ | h1
  · exact r_cons4 h h0 hi kc hk _ rfl op cn cd h1 hc A C
  · exact r_cons6 h h0 hi kc hk _ rfl op cn cd h1 hc A C
  · exact r_cons3 h h0 hi kc hk _ rfl op cn cd h1 hc A C
structure DPostR (w0 w : World) (B : Nat) (k : Rk) (cx : Cx) (lp : Lp) (st st' : Ls) (i' : Nat) (e : Ev) (r : Ending) (W : World) : Prop where mk ::
  out : ∃ A C, r = .returned (.agg (evV e A C)) ∧ e.data.length ≤ C ∧ Kd.F (Kd.int .i64) W (fun q => w.heap.size ≤ q) A e.data.length e.data ∧ RPost w0 w B k cx lp st st' i' W
structure TPR (w0 w : World) (B : Nat) (k : Rk) (cx : Cx) (lp : Lp) (st st' : Ls) (i' g : Nat) (yc : Array Value) (A : Option Addr) (d : List Int) (cs : Array Value) (W : World) : Prop where
  p : RPost w0 w B k cx lp st st' i' W
  b : W.heap[g]? = some (.cells cs 44 (0, 0))
  y : W.heap[w.heap.size]? = some (.cells yc 39 (0, 0))
  e : W.heap[w.heap.size + 1]? = some (.cells #[.int .i64 0, .int .i64 0, .int .i64 0, .int .i64 0, .int .u64 0, .int .i64 0, .slice none 0 0] 44 (0, 0))
  f : Kd.F (Kd.int .i64) W (fun q => w.heap.size + 2 ≤ q ∧ q ≠ g) A d.length d
section
variable {w0 w W W1 : World} {B g : Nat} {k : Rk} {cx : Cx} {lp : Lp} {st st' : Ls} {i' : Nat} {yc cs : Array Value} {A : Option Addr} {d : List Int}
theorem TPR.below (h : TPR w0 w B k cx lp st st' i' g yc A d cs W) (b : Below W.heap.size W W1) : TPR w0 w B k cx lp st st' i' g yc A d cs W1 :=
  ⟨h.p.below b, blk_below h.b b, blk_below h.y b, blk_below h.e b, Kd.F_below h.f b⟩
theorem TPR.set (h : TPR w0 w B k cx lp st st' i' g yc A d cs W) (hg : w.heap.size + 2 ≤ g) (h0 : w0.heap.size ≤ w.heap.size) (j : Nat) (v : Value) (cs' : Array Value) (hc : cs.setIfInBounds j v = cs') : TPR w0 w B k cx lp st st' i' g yc A d cs' (W.setCell ⟨g, j, none⟩ v) :=
  ⟨h.p.set h.b (by omega) h0 (by decide) j v, blk_put h.b j v hc, blk_far h.y (p := ⟨g, j, none⟩) (by show w.heap.size ≠ g; omega) v, blk_far h.e (p := ⟨g, j, none⟩) (by show w.heap.size + 1 ≠ g; omega) v, Kd.F_step h.f (fun q hq _ => Below.heap_setCell _ _ _ _ hq.2)⟩
end
set_option maxHeartbeats 16000000 in
theorem r_do {w0 w : World} {B : Nat} {k : Rk} {cx : Cx} {lp : Lp} {st : Ls} {i : Nat} (h : Rm w0.heap.size w B k cx lp st i) (h0 : Below w0.heap.size w0 w) (hi : i < 1000) (t : Nat) (ht : t < cx.prod + cx.up.length) (c : Cl) (A : Option Addr) (C : Nat) (hdF : Kd.F (Kd.int .i64) w (fun q => ¬ OwnB (rowsR k cx st) B q) A c.data.length c.data) (hdl : c.data.length ≤ C) :
    Calls Tryd.prog 17 #[.pointer (some ⟨B, 0, none⟩), .int .i64 (t : Int), .agg #[.int .i64 c.op, .int .i64 c.n, .slice A c.data.length C]] w fun r W => DPostR w0 w B k cx lp st (doL cx lp st t c) (i + 1) (evL cx lp st t c) r W := by
  have hb0 := below_alloc (below_alloc (Below.refl w.heap.size w) (.cells #[.int .i64 c.op, .int .i64 c.n, .slice A c.data.length C] 39)) (.cells #[.int .i64 0, .int .i64 0, .int .i64 0, .int .i64 0, .int .u64 0, .int .i64 0, .slice none 0 0] 44)
  have HY := Aside.mk (blk_alloc (heap_alloc_new w (.cells #[.int .i64 c.op, .int .i64 c.n, .slice A c.data.length C] 39)) (.cells #[.int .i64 0, .int .i64 0, .int .i64 0, .int .i64 0, .int .u64 0, .int .i64 0, .slice none 0 0] 44))
  have HE := heap_alloc_new (w.alloc (.cells #[.int .i64 c.op, .int .i64 c.n, .slice A c.data.length C] 39)) (.cells #[.int .i64 0, .int .i64 0, .int .i64 0, .int .i64 0, .int .u64 0, .int .i64 0, .slice none 0 0] 44)
  rw [World.size_alloc] at HE
  have HEV := Aside.mk HE
  have HW := Aside.mk hb0
  have HL := Aside.mk h
  have H00 := Aside.mk h0
  have HI := Aside.mk hi
  have HDF := Aside.mk hdF
  have HDL := Aside.mk hdl
  have HM := Aside.mk (h.below hb0)
  have HT := Aside.mk ht
  obtain ⟨v0, v1, v2, v3, v4, v5, v6, hv7⟩ := hR_shape cx st t
  have HV7 := Aside.mk hv7
  obtain ⟨nn, hnn⟩ : ∃ nn, nn = cx.prod + cx.up.length := ⟨_, rfl⟩
  have HNN := Aside.mk hnn
  have g1 : decide ((t : Int) < (nn : Int)) = true := decide_eq_true (by omega)
  have g2 : (t : Int) < (nn : Int) := by omega
  have g3 : decide (t < nn) = true := decide_eq_true (by omega)
  clear hb0 h h0 hi ht hdF hdl HE hv7 hnn
  go_enter Tryd.func17, Tryd.ntmps17
  go_upto_region 1 with (fail)
  generalize (w.alloc (.cells #[.int .i64 c.op, .int .i64 c.n, .slice A c.data.length C] 39)).alloc (.cells #[.int .i64 0, .int .i64 0, .int .i64 0, .int .i64 0, .int .u64 0, .int .i64 0, .slice none 0 0] 44) = w2 at *
  obtain ⟨q, eH, _, hh, _⟩ := HM.out.hand t HT.out
  rw [HV7.out] at hh
  have HEH := Aside.mk eH
  have HS := Aside.mk (show ∀ W : World, Below w2.heap.size w2 W → W.heap[w.heap.size]? = some (.cells #[.int .i64 c.op, .int .i64 c.n, .slice A c.data.length C] 39 (0, 0)) → W.cell? ⟨w.heap.size, 0, none⟩ = some (.int .i64 c.op) ∧ W.cell? ⟨w.heap.size, 1, none⟩ = some (.int .i64 c.n) ∧ W.cell? ⟨w.heap.size, 2, none⟩ = some (.slice A c.data.length C) ∧ W.cell? ⟨B, 8, none⟩ = some (.slice (some ⟨q, 0, none⟩) nn k.hc) ∧ W.cell? ⟨q, t * 7, none⟩ = some v0 ∧ W.cell? ⟨q, t * 7 + 1, none⟩ = some v1 ∧ W.cell? ⟨q, t * 7 + 2, none⟩ = some v2 ∧ W.cell? ⟨q, t * 7 + 3, none⟩ = some v3 ∧ W.cell? ⟨q, t * 7 + 4, none⟩ = some v4 ∧ W.cell? ⟨q, t * 7 + 5, none⟩ = some v5 ∧ W.cell? ⟨q, t * 7 + 6, none⟩ = some v6 ∧ True from fun W hb hy => by
    have h8 := (HM.out.below hb).cells.2.2.2.2.2.2.2.2
    rw [HEH.out, ← HNN.out] at h8
    have go : ∀ {p : Addr} {v : Value}, w2.cell? p = some v → W.cell? p = some v := fun hp => (hb.cell (World.block_lt_of_cell? _ _ hp)).trans hp
    exact ⟨(blk_cell hy 0).trans rfl, (blk_cell hy 1).trans rfl, (blk_cell hy 2).trans rfl, h8, go (hh 0 _ rfl), go (hh 1 _ rfl), go (hh 2 _ rfl), go (hh 3 _ rfl), go (hh 4 _ rfl), go (hh 5 _ rfl), go (hh 6 _ rfl), trivial⟩)
  clear hh eH
  have HMAY := Aside.mk (fun w2 => r_may HM.out t HT.out c A C w2)
  rw [HV7.out] at HMAY
  refine start_ (n := 10) (S := fun w' => w'.cell? ⟨w.heap.size, 0, none⟩ = some (.int .i64 c.op) ∧ w'.cell? ⟨w.heap.size, 1, none⟩ = some (.int .i64 c.n) ∧ w'.cell? ⟨w.heap.size, 2, none⟩ = some (.slice A c.data.length C) ∧ w'.cell? ⟨B, 8, none⟩ = some (.slice (some ⟨q, 0, none⟩) nn k.hc) ∧ w'.cell? ⟨q, t * 7, none⟩ = some v0 ∧ w'.cell? ⟨q, t * 7 + 1, none⟩ = some v1 ∧ w'.cell? ⟨q, t * 7 + 2, none⟩ = some v2 ∧ w'.cell? ⟨q, t * 7 + 3, none⟩ = some v3 ∧ w'.cell? ⟨q, t * 7 + 4, none⟩ = some v4 ∧ w'.cell? ⟨q, t * 7 + 5, none⟩ = some v5 ∧ w'.cell? ⟨q, t * 7 + 6, none⟩ = some v6 ∧ True) (ds := []) (bm 10 0) (by kernel_rfl) rfl rfl (HS.out _ (below_drew1 (Below.refl _ _)) (blk_drew HY.out)) (fun hHeld => ?_)
  have hb := below_drew1 (Below.refl w2.heap.size w2)
  replace HM := Aside.mk (HM.out.below hb)
  replace HW := Aside.mk (HW.out.trans (hb.mono HW.out.size))
  replace HY := Aside.mk (blk_below HY.out hb)
  replace HEV := Aside.mk (blk_below HEV.out hb)
  have HB2 := Aside.mk hb
  clear hb
  generalize w2.drew = w3 at *
  refine pu_ 0 (bm 10 1) ?_
  refine pu_ 1 (bm 10 3) ?_
  refine pu_ 2 (bm 10 7) ?_
  refine ta_ 3 (bm 10 15) hHeld ?_
  refine pu_ 4 (bm 10 31) ?_
  refine pu_ 5 (bm 10 63) ?_
  refine ta_ 6 (bm 10 127) hHeld ?_
  refine ta_ 7 (bm 10 255) hHeld ?_
  refine one_ (i := 8) (N := some 17) (bm 10 511) rfl rfl (by kernel_rfl) (by decide) (fun K hK => ?_)
  refine goes_ Tryd.func43 (by kernel_rfl) rfl #[.agg #[v0, v1, v2, v3, v4, v5, v6], .agg #[.int .i64 c.op, .int .i64 c.n, .slice A c.data.length C]] (by rfl) rfl rfl (by (try simp only [List.map_toArray, List.map_cons, List.map_nil]); first | done | rfl) ?_
  refine (HMAY.out _).mono ?_
  rintro q wm ⟨rfl, hb⟩
  refine ⟨_, rfl, ?_⟩
  have HS := Aside.mk (HS.out _ (HB2.out.trans (hb.mono HB2.out.size)) (blk_below HY.out hb))
  replace HM := Aside.mk (HM.out.below hb)
  replace HW := Aside.mk (HW.out.trans (hb.mono HW.out.size))
  replace HY := Aside.mk (blk_below HY.out hb)
  replace HEV := Aside.mk (blk_below HEV.out hb)
  clear hb
  refine hK.out _ _ HS.out (fun hHeld => ?_)
  clear hK K
  refine norm_ (a' := ?_) ?_ ?_
  rotate_left
  · show Act.put _ (some 17) _ = _
    simp only [Act.put, List.setIfInBounds_toArray, List.set_cons_zero, List.set_cons_succ, i64_w, i32_w]
    rfl
  refine pu_ 9 (bm 10 1023) ?_
  refine done_ (by kernel_rfl) ?_
  clear hHeld HS HMAY g1 g2 g3
  go_upto_region 3 with (fail)
  have hb := below_alloc (Below.refl wm.heap.size wm) (.cells #[.int .i64 0, .int .i64 0, .int .i64 0, .int .i64 0, .int .u64 0, .int .i64 0, .slice none 0 0] 44)
  have HBX := Aside.mk (heap_alloc_new wm (.cells #[.int .i64 0, .int .i64 0, .int .i64 0, .int .i64 0, .int .u64 0, .int .i64 0, .slice none 0 0] 44))
  have HSZ4 := Aside.mk (show w.heap.size + 2 ≤ wm.heap.size from blk_lt HEV.out)
  have HG4 := Aside.mk (blk_lt HBX.out)
  replace HM := Aside.mk (HM.out.below hb)
  replace HW := Aside.mk (HW.out.trans (hb.mono HW.out.size))
  replace HY := Aside.mk (blk_below HY.out hb)
  replace HEV := Aside.mk (blk_below HEV.out hb)
  clear hb HB2
  generalize hg : wm.heap.size = g at *
  generalize wm.alloc (.cells #[.int .i64 0, .int .i64 0, .int .i64 0, .int .i64 0, .int .u64 0, .int .i64 0, .slice none 0 0] 44) = W6 at *
  clear hg
  have HNE := Aside.mk (show w.heap.size + 1 ≠ g by have := HSZ4.out; omega)
  have HSZ := Aside.mk (show w.heap.size ≤ g by have := HSZ4.out; omega)
  have HG2 := Aside.mk HSZ4.out
  by_cases hc : codeL cx st t c = 0
  rotate_left
  · have t1 : (codeL cx st t c == 0) = false := by simpa using hc
    have HEQ := Aside.mk (show callL cx lp st t c = (st, ev0) from by unfold callL; rw [if_pos hc])
    clear hc
    have HP := Aside.mk (show RPost w0 w B k cx lp st st (i + 1) W6 from ⟨k, { HM.out with wf := HM.out.wf.mono (Nat.le_succ _), i := HI.out }, (TK.refl H00.out).below HW.out, fun _ h => .inl h, Kr.refl k⟩)
    replace HP := Aside.mk (TPR.mk (A := none) (d := []) HP.out HBX.out HY.out HEV.out (Kd.F_nil _ _ _))
    clear HEV HY HBX
    generalize hcod : codeL cx st t c = cod at *
    go_upto_region 7 with (fail)
    refine start_ (n := 12) (S := fun w' => w'.cell? ⟨w.heap.size, 0, none⟩ = some (.int .i64 c.op) ∧ True) (ds := []) (bm 12 0) (by kernel_rfl) rfl rfl ⟨(blk_cell (blk_drew HP.out.y) 0).trans rfl, trivial⟩ (fun hHeld => ?_)
    replace HP := Aside.mk (HP.out.below (below_drew1 (Below.refl _ _)))
    generalize W6.drew = W7 at *
    refine pu_ 0 (bm 12 1) ?_
    refine pu_ 1 (bm 12 3) ?_
    refine ta_ 2 (bm 12 7) hHeld ?_
    refine pu_ 3 (bm 12 15) ?_
    refine pu_ 4 (bm 12 31) ?_
    have fz := blk_frozen HP.out.b 0
    have ce := (blk_cell HP.out.b 0).trans rfl
    refine one_ (i := 5) (N := none) (bm 12 63) rfl rfl (by kernel_rfl) (by decide) (fun K hK => ?_)
    refine skip_ (w1 := ?_) (by rfl) rfl ?_ ?_
    rotate_left
    · go_simp
      rfl
    replace HP := Aside.mk (HP.out.set HG2.out H00.out.size 0 (.int .i64 2) #[.int .i64 2, .int .i64 0, .int .i64 0, .int .i64 0, .int .u64 0, .int .i64 0, .slice none 0 0] rfl)
    clear fz ce
    refine hK.out _ _ ⟨(blk_cell HP.out.y 0).trans rfl, trivial⟩ (fun hHeld => ?_)
    clear hK K
    generalize W7.setCell ⟨g, 0, none⟩ (.int .i64 2) = W15 at *
    refine pu_ 6 (bm 12 127) ?_
    have fz := blk_frozen HP.out.b 1
    have ce := (blk_cell HP.out.b 1).trans rfl
    refine one_ (i := 7) (N := none) (bm 12 255) rfl rfl (by kernel_rfl) (by decide) (fun K hK => ?_)
    refine skip_ (w1 := ?_) (by rfl) rfl ?_ ?_
    rotate_left
    · go_simp
      rfl
    replace HP := Aside.mk (HP.out.set HG2.out H00.out.size 1 (.int .i64 (t : Int)) #[.int .i64 2, .int .i64 (t : Int), .int .i64 0, .int .i64 0, .int .u64 0, .int .i64 0, .slice none 0 0] rfl)
    clear fz ce
    refine hK.out _ _ ⟨(blk_cell HP.out.y 0).trans rfl, trivial⟩ (fun hHeld => ?_)
    clear hK K
    generalize W15.setCell ⟨g, 1, none⟩ (.int .i64 (t : Int)) = W17 at *
    refine pu_ 8 (bm 12 511) ?_
    have fz := blk_frozen HP.out.b 2
    have ce := (blk_cell HP.out.b 2).trans rfl
    refine one_ (i := 9) (N := none) (bm 12 1023) rfl rfl (by kernel_rfl) (by decide) (fun K hK => ?_)
    refine skip_ (w1 := ?_) (by rfl) rfl ?_ ?_
    rotate_left
    · go_simp
      rfl
    replace HP := Aside.mk (HP.out.set HG2.out H00.out.size 2 (.int .i64 c.op) #[.int .i64 2, .int .i64 (t : Int), .int .i64 c.op, .int .i64 0, .int .u64 0, .int .i64 0, .slice none 0 0] rfl)
    clear fz ce
    refine hK.out _ _ ⟨(blk_cell HP.out.y 0).trans rfl, trivial⟩ (fun hHeld => ?_)
    clear hK K
    generalize W17.setCell ⟨g, 2, none⟩ (.int .i64 c.op) = W19 at *
    refine pu_ 10 (bm 12 2047) ?_
    have fz := blk_frozen HP.out.b 5
    have ce := (blk_cell HP.out.b 5).trans rfl
    refine one_ (i := 11) (N := none) (bm 12 4095) rfl rfl (by kernel_rfl) (by decide) (fun K hK => ?_)
    refine skip_ (w1 := ?_) (by rfl) rfl ?_ ?_
    rotate_left
    · go_simp
      rfl
    replace HP := Aside.mk (HP.out.set HG2.out H00.out.size 5 (.int .i64 cod) #[.int .i64 2, .int .i64 (t : Int), .int .i64 c.op, .int .i64 0, .int .u64 0, .int .i64 cod, .slice none 0 0] rfl)
    clear fz ce
    refine hK.out _ _ ⟨(blk_cell HP.out.y 0).trans rfl, trivial⟩ (fun hHeld => ?_)
    clear hK K
    generalize W19.setCell ⟨g, 5, none⟩ (.int .i64 cod) = W21 at *
    refine done_ (by kernel_rfl) ?_
    clear hHeld
    obtain ⟨e0, e1, e2, e3, e4, e5, e6⟩ := Mo.cell7 HP.out.b
    obtain ⟨d0, d1, d2, d3, d4, d5, d6⟩ := Mo.cell7 HP.out.e
    have fz0 := blk_frozen HP.out.e 0
    have fz1 := blk_frozen HP.out.e 1
    have fz2 := blk_frozen HP.out.e 2
    have fz3 := blk_frozen HP.out.e 3
    have fz4 := blk_frozen HP.out.e 4
    have fz5 := blk_frozen HP.out.e 5
    have fz6 := blk_frozen HP.out.e 6
    obtain ⟨wy, hwy, hPy, hBy⟩ := RPost.set7 HP.out.p HP.out.e (Nat.le_succ _) H00.out.size (.int .i64 2) (.int .i64 (t : Int)) (.int .i64 c.op) (.int .i64 0) (.int .u64 0) (.int .i64 cod) (.slice none 0 0)
    have HPY := Aside.mk hPy
    have HBY := Aside.mk hBy
    have HFY := Aside.mk (Kd.F_step HP.out.f (W1 := wy) (fun q hq _ => by rw [hwy, set7_far _ _ _ _ _ _ _ (show q ≠ w.heap.size + 1 by omega)]))
    clear hPy hBy
    go_wp2
    rw [← hwy]
    refine bodyPost_ret (results_cell_row rfl _ _ (w.heap.size + 1) 44 #[.int .i64 2, .int .i64 (t : Int), .int .i64 c.op, .int .i64 0, .int .u64 0, .int .i64 cod, .slice none 0 0] (0, 0) _ rfl HBY.out Tryd.underlying44 rfl (by kernel_rfl)) rfl ?_
    have hE : doL cx lp st t c = st ∧ evL cx lp st t c = { ev0 with kind := 2, thread := t, op := c.op, code := cod } := by unfold doL evL; rw [HEQ.out, hcod]; exact ⟨rfl, rfl⟩
    rw [hE.1, hE.2]
    exact ⟨⟨none, 0, rfl, Nat.le_refl _, Kd.F_nil _ _ _, HPY.out⟩⟩
  have t1 : (codeL cx st t c == 0) = true := by rw [hc]; rfl
  have HC0 := Aside.mk hc
  clear hc
  by_cases hp : t < cx.prod
  · have t2 : decide ((t : Int) < (cx.prod : Int)) = true := decide_eq_true (by omega)
    have t3 : decide (t < cx.prod) = true := decide_eq_true hp
    have t4 : (t : Int) < (cx.prod : Int) := by omega
    have HP0 := Aside.mk hp
    clear hp
    have c3 := HM.out.cells.2.2.2.1
    obtain ⟨y0, y1, y2⟩ := cell3 HY.out
    go_wp2_with fail
    clear y0 y1 y2 c3 t1 t2 t3 t4
    refine (r_prod HM.out (below_low HW.out H00.out) HI.out t HP0.out c HC0.out A C (Kd.F_below HDF.out HW.out) HDL.out).mono ?_
    rintro r W6b ⟨⟨A1, C1, rfl, hlen, hfd, hpost⟩⟩
    have HFD := Aside.mk hfd
    have HLN := Aside.mk hlen
    have HBX2 := Aside.mk (show W6b.heap[g]? = some (.cells #[.int .i64 0, .int .i64 0, .int .i64 0, .int .i64 0, .int .u64 0, .int .i64 0, .slice none 0 0] 44 (0, 0)) from by obtain ⟨k', _, hT, _⟩ := hpost; exact (TKR.box hT HM.out HBX.out (by decide)))
    have HEV2 := Aside.mk (show W6b.heap[w.heap.size + 1]? = some (.cells #[.int .i64 0, .int .i64 0, .int .i64 0, .int .i64 0, .int .u64 0, .int .i64 0, .slice none 0 0] 44 (0, 0)) from by obtain ⟨k', _, hT, _⟩ := hpost; exact (TKR.box hT HM.out HEV.out (by decide)))
    have HY2 := Aside.mk (show W6b.heap[w.heap.size]? = some (.cells #[.int .i64 c.op, .int .i64 c.n, .slice A c.data.length C] 39 (0, 0)) from by obtain ⟨k', _, hT, _⟩ := hpost; exact (TKR.box hT HM.out HY.out (by decide)))
    have HPP := Aside.mk (hpost.up H00.out HW.out)
    clear hfd hlen hpost HEV HY
    generalize heq : (callL cx lp st t c).2 = ev at *
    unfold evV
    obtain ⟨e0, e1, e2, e3, e4, e5, e6⟩ := Mo.cell7 HBX2.out
    have fz0 := blk_frozen HBX2.out 0
    have fz1 := blk_frozen HBX2.out 1
    have fz2 := blk_frozen HBX2.out 2
    have fz3 := blk_frozen HBX2.out 3
    have fz4 := blk_frozen HBX2.out 4
    have fz5 := blk_frozen HBX2.out 5
    have fz6 := blk_frozen HBX2.out 6
    obtain ⟨W7, hw7, hP7, hE7⟩ := RPost.set7 HPP.out HBX2.out HSZ.out H00.out.size (.int .i64 ev.kind) (.int .i64 ev.thread) (.int .i64 ev.op) (.int .i64 ev.n) (.int .u64 ev.pos) (.int .i64 ev.code) (.slice A1 ev.data.length C1)
    have HFW := Aside.mk (show ∀ q, q ≠ g → W7.heap[q]? = W6b.heap[q]? from fun q hq => by rw [hw7, set7_far _ _ _ _ _ _ _ hq])
    go_upto_region 7 with (fail)
    rw [← hw7]
    have HP := Aside.mk (TPR.mk (A := A1) (d := ev.data) hP7 hE7 ((HFW.out w.heap.size (by have := HSZ4.out; omega)).trans HY2.out) ((HFW.out _ HNE.out).trans HEV2.out) (Kd.F_step (Kd.F_mono HFD.out (fun q hq => ⟨by have := HG4.out; have := HM.out; have := HSZ4.out; omega, by have := HG4.out; omega⟩)) (fun q hq _ => HFW.out q hq.2)))
    clear hw7 hP7 hE7 HEV2 HY2 HPP HFW e0 e1 e2 e3 e4 e5 e6 fz0 fz1 fz2 fz3 fz4 fz5 fz6
    generalize hcod : codeL cx st t c = cod at *
    generalize W7 = W6 at *
    refine start_ (n := 12) (S := fun w' => w'.cell? ⟨w.heap.size, 0, none⟩ = some (.int .i64 c.op) ∧ True) (ds := []) (bm 12 0) (by kernel_rfl) rfl rfl ⟨(blk_cell (blk_drew HP.out.y) 0).trans rfl, trivial⟩ (fun hHeld => ?_)
    replace HP := Aside.mk (HP.out.below (below_drew1 (Below.refl _ _)))
    generalize W6.drew = W7 at *
    refine pu_ 0 (bm 12 1) ?_
    refine pu_ 1 (bm 12 3) ?_
    refine ta_ 2 (bm 12 7) hHeld ?_
    refine pu_ 3 (bm 12 15) ?_
    refine pu_ 4 (bm 12 31) ?_
    have fz := blk_frozen HP.out.b 0
    have ce := (blk_cell HP.out.b 0).trans rfl
    refine one_ (i := 5) (N := none) (bm 12 63) rfl rfl (by kernel_rfl) (by decide) (fun K hK => ?_)
    refine skip_ (w1 := ?_) (by rfl) rfl ?_ ?_
    rotate_left
    · go_simp
      rfl
    replace HP := Aside.mk (HP.out.set HG2.out H00.out.size 0 (.int .i64 2) #[.int .i64 2, .int .i64 ev.thread, .int .i64 ev.op, .int .i64 ev.n, .int .u64 ev.pos, .int .i64 ev.code, .slice A1 ev.data.length C1] rfl)
    clear fz ce
    refine hK.out _ _ ⟨(blk_cell HP.out.y 0).trans rfl, trivial⟩ (fun hHeld => ?_)
    clear hK K
    generalize W7.setCell ⟨g, 0, none⟩ (.int .i64 2) = W15 at *
    refine pu_ 6 (bm 12 127) ?_
    have fz := blk_frozen HP.out.b 1
    have ce := (blk_cell HP.out.b 1).trans rfl
    refine one_ (i := 7) (N := none) (bm 12 255) rfl rfl (by kernel_rfl) (by decide) (fun K hK => ?_)
    refine skip_ (w1 := ?_) (by rfl) rfl ?_ ?_
    rotate_left
    · go_simp
      rfl
    replace HP := Aside.mk (HP.out.set HG2.out H00.out.size 1 (.int .i64 (t : Int)) #[.int .i64 2, .int .i64 (t : Int), .int .i64 ev.op, .int .i64 ev.n, .int .u64 ev.pos, .int .i64 ev.code, .slice A1 ev.data.length C1] rfl)
    clear fz ce
    refine hK.out _ _ ⟨(blk_cell HP.out.y 0).trans rfl, trivial⟩ (fun hHeld => ?_)
    clear hK K
    generalize W15.setCell ⟨g, 1, none⟩ (.int .i64 (t : Int)) = W17 at *
    refine pu_ 8 (bm 12 511) ?_
    have fz := blk_frozen HP.out.b 2
    have ce := (blk_cell HP.out.b 2).trans rfl
    refine one_ (i := 9) (N := none) (bm 12 1023) rfl rfl (by kernel_rfl) (by decide) (fun K hK => ?_)
    refine skip_ (w1 := ?_) (by rfl) rfl ?_ ?_
    rotate_left
    · go_simp
      rfl
    replace HP := Aside.mk (HP.out.set HG2.out H00.out.size 2 (.int .i64 c.op) #[.int .i64 2, .int .i64 (t : Int), .int .i64 c.op, .int .i64 ev.n, .int .u64 ev.pos, .int .i64 ev.code, .slice A1 ev.data.length C1] rfl)
    clear fz ce
    refine hK.out _ _ ⟨(blk_cell HP.out.y 0).trans rfl, trivial⟩ (fun hHeld => ?_)
    clear hK K
    generalize W17.setCell ⟨g, 2, none⟩ (.int .i64 c.op) = W19 at *
    refine pu_ 10 (bm 12 2047) ?_
    have fz := blk_frozen HP.out.b 5
    have ce := (blk_cell HP.out.b 5).trans rfl
    refine one_ (i := 11) (N := none) (bm 12 4095) rfl rfl (by kernel_rfl) (by decide) (fun K hK => ?_)
    refine skip_ (w1 := ?_) (by rfl) rfl ?_ ?_
    rotate_left
    · go_simp
      rfl
    replace HP := Aside.mk (HP.out.set HG2.out H00.out.size 5 (.int .i64 cod) #[.int .i64 2, .int .i64 (t : Int), .int .i64 c.op, .int .i64 ev.n, .int .u64 ev.pos, .int .i64 cod, .slice A1 ev.data.length C1] rfl)
    clear fz ce
    refine hK.out _ _ ⟨(blk_cell HP.out.y 0).trans rfl, trivial⟩ (fun hHeld => ?_)
    clear hK K
    generalize W19.setCell ⟨g, 5, none⟩ (.int .i64 cod) = W21 at *
    refine done_ (by kernel_rfl) ?_
    clear hHeld
    obtain ⟨e0, e1, e2, e3, e4, e5, e6⟩ := Mo.cell7 HP.out.b
    obtain ⟨d0, d1, d2, d3, d4, d5, d6⟩ := Mo.cell7 HP.out.e
    have fz0 := blk_frozen HP.out.e 0
    have fz1 := blk_frozen HP.out.e 1
    have fz2 := blk_frozen HP.out.e 2
    have fz3 := blk_frozen HP.out.e 3
    have fz4 := blk_frozen HP.out.e 4
    have fz5 := blk_frozen HP.out.e 5
    have fz6 := blk_frozen HP.out.e 6
    obtain ⟨wy, hwy, hPy, hBy⟩ := RPost.set7 HP.out.p HP.out.e (Nat.le_succ _) H00.out.size (.int .i64 2) (.int .i64 (t : Int)) (.int .i64 c.op) (.int .i64 ev.n) (.int .u64 ev.pos) (.int .i64 cod) (.slice A1 ev.data.length C1)
    have HPY := Aside.mk hPy
    have HBY := Aside.mk hBy
    have HFY := Aside.mk (Kd.F_step HP.out.f (W1 := wy) (fun q hq _ => by rw [hwy, set7_far _ _ _ _ _ _ _ (show q ≠ w.heap.size + 1 by omega)]))
    clear hPy hBy
    go_wp2
    rw [← hwy]
    refine bodyPost_ret (results_cell_row rfl _ _ (w.heap.size + 1) 44 #[.int .i64 2, .int .i64 (t : Int), .int .i64 c.op, .int .i64 ev.n, .int .u64 ev.pos, .int .i64 cod, .slice A1 ev.data.length C1] (0, 0) _ rfl HBY.out Tryd.underlying44 rfl (by kernel_rfl)) rfl ?_
    have hE : evL cx lp st t c = { ev with kind := 2, thread := (t : Nat), op := c.op, code := cod } := by unfold evL; rw [heq, hcod]
    rw [hE]
    exact ⟨⟨A1, C1, rfl, HLN.out, Kd.F_mono HFY.out (fun q hq => by omega), HPY.out⟩⟩
  · have t2 : decide ((t : Int) < (cx.prod : Int)) = false := decide_eq_false (by omega)
    have t3 : decide (t < cx.prod) = false := decide_eq_false hp
    have t4 : ¬ ((t : Int) < (cx.prod : Int)) := by omega
    have HP0 := Aside.mk hp
    clear hp
    have c3 := HM.out.cells.2.2.2.1
    obtain ⟨y0, y1, y2⟩ := cell3 HY.out
    go_wp2_with fail
    clear y0 y1 y2 c3 t1 t2 t3 t4
    refine (r_cons HM.out (below_low HW.out H00.out) HI.out t HT.out HP0.out c HC0.out A C).mono ?_
    rintro r W6b ⟨⟨A1, C1, rfl, hlen, hfd, hpost⟩⟩
    have HFD := Aside.mk hfd
    have HLN := Aside.mk hlen
    have HBX2 := Aside.mk (show W6b.heap[g]? = some (.cells #[.int .i64 0, .int .i64 0, .int .i64 0, .int .i64 0, .int .u64 0, .int .i64 0, .slice none 0 0] 44 (0, 0)) from by obtain ⟨k', _, hT, _⟩ := hpost; exact (TKR.box hT HM.out HBX.out (by decide)))
    have HEV2 := Aside.mk (show W6b.heap[w.heap.size + 1]? = some (.cells #[.int .i64 0, .int .i64 0, .int .i64 0, .int .i64 0, .int .u64 0, .int .i64 0, .slice none 0 0] 44 (0, 0)) from by obtain ⟨k', _, hT, _⟩ := hpost; exact (TKR.box hT HM.out HEV.out (by decide)))
    have HY2 := Aside.mk (show W6b.heap[w.heap.size]? = some (.cells #[.int .i64 c.op, .int .i64 c.n, .slice A c.data.length C] 39 (0, 0)) from by obtain ⟨k', _, hT, _⟩ := hpost; exact (TKR.box hT HM.out HY.out (by decide)))
    have HPP := Aside.mk (hpost.up H00.out HW.out)
    clear hfd hlen hpost HEV HY
    generalize heq : (callL cx lp st t c).2 = ev at *
    unfold evV
    obtain ⟨e0, e1, e2, e3, e4, e5, e6⟩ := Mo.cell7 HBX2.out
    have fz0 := blk_frozen HBX2.out 0
    have fz1 := blk_frozen HBX2.out 1
    have fz2 := blk_frozen HBX2.out 2
    have fz3 := blk_frozen HBX2.out 3
    have fz4 := blk_frozen HBX2.out 4
    have fz5 := blk_frozen HBX2.out 5
    have fz6 := blk_frozen HBX2.out 6
    obtain ⟨W7, hw7, hP7, hE7⟩ := RPost.set7 HPP.out HBX2.out HSZ.out H00.out.size (.int .i64 ev.kind) (.int .i64 ev.thread) (.int .i64 ev.op) (.int .i64 ev.n) (.int .u64 ev.pos) (.int .i64 ev.code) (.slice A1 ev.data.length C1)
    have HFW := Aside.mk (show ∀ q, q ≠ g → W7.heap[q]? = W6b.heap[q]? from fun q hq => by rw [hw7, set7_far _ _ _ _ _ _ _ hq])
    go_upto_region 7 with (fail)
    rw [← hw7]
    have HP := Aside.mk (TPR.mk (A := A1) (d := ev.data) hP7 hE7 ((HFW.out w.heap.size (by have := HSZ4.out; omega)).trans HY2.out) ((HFW.out _ HNE.out).trans HEV2.out) (Kd.F_step (Kd.F_mono HFD.out (fun q hq => ⟨by have := HG4.out; have := HM.out; have := HSZ4.out; omega, by have := HG4.out; omega⟩)) (fun q hq _ => HFW.out q hq.2)))
    clear hw7 hP7 hE7 HEV2 HY2 HPP HFW e0 e1 e2 e3 e4 e5 e6 fz0 fz1 fz2 fz3 fz4 fz5 fz6
    generalize hcod : codeL cx st t c = cod at *
    generalize W7 = W6 at *
    refine start_ (n := 12) (S := fun w' => w'.cell? ⟨w.heap.size, 0, none⟩ = some (.int .i64 c.op) ∧ True) (ds := []) (bm 12 0) (by kernel_rfl) rfl rfl ⟨(blk_cell (blk_drew HP.out.y) 0).trans rfl, trivial⟩ (fun hHeld => ?_)
    replace HP := Aside.mk (HP.out.below (below_drew1 (Below.refl _ _)))
    generalize W6.drew = W7 at *
    refine pu_ 0 (bm 12 1) ?_
    refine pu_ 1 (bm 12 3) ?_
    refine ta_ 2 (bm 12 7) hHeld ?_
    refine pu_ 3 (bm 12 15) ?_
    refine pu_ 4 (bm 12 31) ?_
    have fz := blk_frozen HP.out.b 0
    have ce := (blk_cell HP.out.b 0).trans rfl
    refine one_ (i := 5) (N := none) (bm 12 63) rfl rfl (by kernel_rfl) (by decide) (fun K hK => ?_)
    refine skip_ (w1 := ?_) (by rfl) rfl ?_ ?_
    rotate_left
    · go_simp
      rfl
    replace HP := Aside.mk (HP.out.set HG2.out H00.out.size 0 (.int .i64 2) #[.int .i64 2, .int .i64 ev.thread, .int .i64 ev.op, .int .i64 ev.n, .int .u64 ev.pos, .int .i64 ev.code, .slice A1 ev.data.length C1] rfl)
    clear fz ce
    refine hK.out _ _ ⟨(blk_cell HP.out.y 0).trans rfl, trivial⟩ (fun hHeld => ?_)
    clear hK K
    generalize W7.setCell ⟨g, 0, none⟩ (.int .i64 2) = W15 at *
    refine pu_ 6 (bm 12 127) ?_
    have fz := blk_frozen HP.out.b 1
    have ce := (blk_cell HP.out.b 1).trans rfl
    refine one_ (i := 7) (N := none) (bm 12 255) rfl rfl (by kernel_rfl) (by decide) (fun K hK => ?_)
    refine skip_ (w1 := ?_) (by rfl) rfl ?_ ?_
    rotate_left
    · go_simp
      rfl
    replace HP := Aside.mk (HP.out.set HG2.out H00.out.size 1 (.int .i64 (t : Int)) #[.int .i64 2, .int .i64 (t : Int), .int .i64 ev.op, .int .i64 ev.n, .int .u64 ev.pos, .int .i64 ev.code, .slice A1 ev.data.length C1] rfl)
    clear fz ce
    refine hK.out _ _ ⟨(blk_cell HP.out.y 0).trans rfl, trivial⟩ (fun hHeld => ?_)
    clear hK K
    generalize W15.setCell ⟨g, 1, none⟩ (.int .i64 (t : Int)) = W17 at *
    refine pu_ 8 (bm 12 511) ?_
    have fz := blk_frozen HP.out.b 2
    have ce := (blk_cell HP.out.b 2).trans rfl
    refine one_ (i := 9) (N := none) (bm 12 1023) rfl rfl (by kernel_rfl) (by decide) (fun K hK => ?_)
    refine skip_ (w1 := ?_) (by rfl) rfl ?_ ?_
    rotate_left
    · go_simp
      rfl
    replace HP := Aside.mk (HP.out.set HG2.out H00.out.size 2 (.int .i64 c.op) #[.int .i64 2, .int .i64 (t : Int), .int .i64 c.op, .int .i64 ev.n, .int .u64 ev.pos, .int .i64 ev.code, .slice A1 ev.data.length C1] rfl)
    clear fz ce
    refine hK.out _ _ ⟨(blk_cell HP.out.y 0).trans rfl, trivial⟩ (fun hHeld => ?_)
    clear hK K
    generalize W17.setCell ⟨g, 2, none⟩ (.int .i64 c.op) = W19 at *
    refine pu_ 10 (bm 12 2047) ?_
    have fz := blk_frozen HP.out.b 5
    have ce := (blk_cell HP.out.b 5).trans rfl
    refine one_ (i := 11) (N := none) (bm 12 4095) rfl rfl (by kernel_rfl) (by decide) (fun K hK => ?_)
    refine skip_ (w1 := ?_) (by rfl) rfl ?_ ?_
    rotate_left
    · go_simp
      rfl
    replace HP := Aside.mk (HP.out.set HG2.out H00.out.size 5 (.int .i64 cod) #[.int .i64 2, .int .i64 (t : Int), .int .i64 c.op, .int .i64 ev.n, .int .u64 ev.pos, .int .i64 cod, .slice A1 ev.data.length C1] rfl)
    clear fz ce
    refine hK.out _ _ ⟨(blk_cell HP.out.y 0).trans rfl, trivial⟩ (fun hHeld => ?_)
    clear hK K
    generalize W19.setCell ⟨g, 5, none⟩ (.int .i64 cod) = W21 at *
    refine done_ (by kernel_rfl) ?_
    clear hHeld
    obtain ⟨e0, e1, e2, e3, e4, e5, e6⟩ := Mo.cell7 HP.out.b
    obtain ⟨d0, d1, d2, d3, d4, d5, d6⟩ := Mo.cell7 HP.out.e
    have fz0 := blk_frozen HP.out.e 0
    have fz1 := blk_frozen HP.out.e 1
    have fz2 := blk_frozen HP.out.e 2
    have fz3 := blk_frozen HP.out.e 3
    have fz4 := blk_frozen HP.out.e 4
    have fz5 := blk_frozen HP.out.e 5
    have fz6 := blk_frozen HP.out.e 6
    obtain ⟨wy, hwy, hPy, hBy⟩ := RPost.set7 HP.out.p HP.out.e (Nat.le_succ _) H00.out.size (.int .i64 2) (.int .i64 (t : Int)) (.int .i64 c.op) (.int .i64 ev.n) (.int .u64 ev.pos) (.int .i64 cod) (.slice A1 ev.data.length C1)
    have HPY := Aside.mk hPy
    have HBY := Aside.mk hBy
    have HFY := Aside.mk (Kd.F_step HP.out.f (W1 := wy) (fun q hq _ => by rw [hwy, set7_far _ _ _ _ _ _ _ (show q ≠ w.heap.size + 1 by omega)]))
    clear hPy hBy
    go_wp2
    rw [← hwy]
    refine bodyPost_ret (results_cell_row rfl _ _ (w.heap.size + 1) 44 #[.int .i64 2, .int .i64 (t : Int), .int .i64 c.op, .int .i64 ev.n, .int .u64 ev.pos, .int .i64 cod, .slice A1 ev.data.length C1] (0, 0) _ rfl HBY.out Tryd.underlying44 rfl (by kernel_rfl)) rfl ?_
    have hE : evL cx lp st t c = { ev with kind := 2, thread := (t : Nat), op := c.op, code := cod } := by unfold evL; rw [heq, hcod]
    rw [hE]
    exact ⟨⟨A1, C1, rfl, HLN.out, Kd.F_mono HFY.out (fun q hq => by omega), HPY.out⟩⟩
end Go.Proofs.YtgibmlbdkijflaaDoor.So
set_option linter.unusedVariables false
set_option linter.unusedSimpArgs false
set_option maxRecDepth 100000
namespace Go.Proofs.YtgibmlbdkijflaaDoor.So
open Go.RowKit Go.Proofs.YtgibmlbdkijflaaDoorW.PrintWords Go.Proofs.YtgibmlbdkijflaaDoorW.PrintLast Go.Proofs.YtgibmlbdkijflaaDoorW.PrintMore
open Ow
open Mo (Aside Cx U64 I64 ints least run cutW plusW New below_low tn1 meas1 w64 i1 wrapE)
open QGc (checkC)
open Graph (checkG Gv)
open Mo (CxOk copy_ok)
open Graph (Tabled ends_okR)
def lpOf (wd sa cp : Int) : Lp := ⟨fun n => plusW wd (cutW wd sa) n, fun n => (Int.tmod (plusW wd (cutW wd sa) n) cp).toNat⟩
theorem ks_of {v wd cp pr sa : Int} {up : List (List Int)} {cx : Cx} (h : CxOk v wd cp pr sa up cx) (hck : checkC v wd cp pr up = 0) (hu : U64 sa) (hsm : QGc.Sm up) {uc : Nat} (huc : up.length ≤ uc) : Ks v wd cp pr sa up.length uc cx (lpOf wd sa cp) := by
  have hl : up.length = cx.up.length := by rw [h.uq, List.length_map]
  have hcp : 0 < cp := by have := h.cap; have := h.c64; omega
  refine ⟨hl, by rw [← hl]; exact huc, h.cap, h.prod, hu, by rw [← h.uq]; exact hck, by rw [← h.uq]; exact hsm, fun n => rfl, fun n => rfl, fun n => ?_, h.c64, h.p4, h.u6, h.ub, h.ul, h.eb, h.en, h.el⟩
  have h0 := (Mo.plus_u (n := wd) (m := n) (Mo.cut_u (n := wd) hu)).1
  exact ⟨Int.tmod_nonneg _ h0, Int.tmod_lt_of_pos _ hcp⟩
structure NR (w6 : World) (bx : Nat) (cv : Array Value) (A : Option Addr) (C : Nat) (up : List (List Int)) (rs : List (Bool × Rw)) (W : World) : Prop where
  b : Below w6.heap.size w6 W
  x : W.heap[bx]? = some (.cells cv 25 (0, 0))
  t : Tabled W
  r : Gv W A C up
  rr : ∀ (i : Nat) (x : Rw), rs[i]? = some (true, x) → x.d.R x.e W w6.heap.size (fun _ => True) x.v x.xs
  ne : ∀ (i j : Nat) (x y : Rw) (q : Nat), i ≠ j → rs[i]? = some (true, x) → rs[j]? = some (true, y) → x.v.ownBlock = some q → y.v.ownBlock ≠ some q
section
variable {w6 : World} {bx : Nat} {cv : Array Value} {A : Option Addr} {C : Nat} {up : List (List Int)} {rs : List (Bool × Rw)} {W W' : World}
theorem NR.below (h : NR w6 bx cv A C up rs W) (b : Below W.heap.size W W') : NR w6 bx cv A C up rs W' :=
  ⟨h.b.trans (b.mono h.b.size), blk_below h.x b, h.t.below b, h.r.below b, fun i x hi => Kd.R_below (h.rr i x hi) b, h.ne⟩
theorem NR.set (h : NR w6 bx cv A C up rs W) (i : Nat) (b : Below W.heap.size W W') (x' : Rw) (hr : x'.d.R x'.e W' W.heap.size (fun _ => True) x'.v x'.xs) : NR w6 bx cv A C up (rs.set i (true, x')) W' := by
  have h2 := h.below b
  have hat : ∀ (j : Nat) (y : Rw), (rs.set i (true, x'))[j]? = some (true, y) → (j = i ∧ y = x') ∨ (j ≠ i ∧ rs[j]? = some (true, y)) := fun j y hj => by
    rw [List.getElem?_set] at hj
    split at hj
    · next e =>
      split at hj
      · injection hj with hj
        injection hj with _ hj
        exact .inl ⟨e.symm, hj.symm⟩
      · cases hj
    · next e => exact .inr ⟨fun e2 => e e2.symm, hj⟩
  refine { h2 with rr := fun j y hj => ?_, ne := fun j k y z q hjk hj hk hq hz => ?_ }
  · rcases hat j y hj with ⟨_, rfl⟩ | ⟨_, hy⟩
    · exact Kd.R_lower hr h.b.size
    · exact h2.rr j y hy
  · rcases hat j y hj with ⟨rfl, rfl⟩ | ⟨_, hy⟩
    · rcases hat k z hk with ⟨e2, _⟩ | ⟨_, hz2⟩
      · exact hjk e2.symm
      · have := Kd.R_base hr q hq; have := Kd.R_lt (h.rr k z hz2) q hz; omega
    · rcases hat k z hk with ⟨rfl, rfl⟩ | ⟨_, hz2⟩
      · have := Kd.R_base hr q hz; have := Kd.R_lt (h.rr j y hy) q hq; omega
      · exact h.ne j k y z q hjk hy hz2 hq hz
end
theorem und_hs : Tryd.prog.underlying 71 = some (.slice 114) := by kernel_rfl
theorem inf_h : (Tryd.prog.info? 114).map (fun i => (i.zero, i.size, i.bytes)) = some (some (.agg #[.int .i64 0, .int .i64 0]), 2, 16) := by kernel_rfl
def rwsN (cx : Cx) (nu : Nat) (f3 f6 f9 f11 f13 : Bool) (s : Value × Value × Value × Value × Value) : List (Bool × Rw) :=
  [(f3, ⟨Kd.int .i64, 3, s.1, ints cx.ends⟩), (f6, ⟨Kd.int .i64, 3, s.2.1, List.replicate cx.cap.toNat 0⟩), (f9, ⟨Kd.raw 2, 114, s.2.2.1, List.replicate cx.prod [.int .i64 0, .int .i64 0]⟩), (f11, ⟨Kd.int .i64, 3, s.2.2.2.1, List.replicate nu 0⟩), (f13, ⟨Kd.int .i64, 3, s.2.2.2.2, List.replicate nu 0⟩)]
theorem s6 {W : World} {g t : Nat} {c0 c1 c2 c3 c4 c5 : Value} (h : W.heap[g]? = some (.cells #[c0, c1, c2, c3, c4, c5] t (0, 0))) : W.cell? ⟨g, 0, none⟩ = some c0 ∧ W.cell? ⟨g, 1, none⟩ = some c1 ∧ W.cell? ⟨g, 2, none⟩ = some c2 ∧ W.cell? ⟨g, 3, none⟩ = some c3 ∧ W.cell? ⟨g, 4, none⟩ = some c4 ∧ W.cell? ⟨g, 5, none⟩ = some c5 ∧ True :=
  ⟨(blk_cell h 0).trans rfl, (blk_cell h 1).trans rfl, (blk_cell h 2).trans rfl, (blk_cell h 3).trans rfl, (blk_cell h 4).trans rfl, (blk_cell h 5).trans rfl, trivial⟩
theorem mz2 (W : World) (b : Nat) : (Kd.raw 2).M W b (fun _ => False) [.int .i64 0, .int .i64 0] [.int .i64 0, .int .i64 0] := ⟨rfl, rfl, fun u hu => by simp only [List.mem_cons, List.not_mem_nil, or_false] at hu; rcases hu with rfl | rfl <;> rfl⟩
structure NewL (w W : World) (base : Nat) (cx : Cx) (lp : Lp) (r : Ending) : Prop where mk ::
  out : ∃ B k, r = .returned (.tuple #[.pointer (some ⟨B, 0, none⟩), .int .i64 0]) ∧ Lm base W B k { cx with lim := B } lp (st0 cx) 0 ∧ (∀ q, OwnB (rowsL k (st0 cx)) B q → w.heap.size ≤ q) ∧ Below w.heap.size w W
theorem NR.lm {w6 : World} {base b6 bx : Nat} {cv : Array Value} {A2 Ae Al Ah Ag As : Option Addr} {C2 ce cl ch cg cs : Nat} {up : List (List Int)} {wb : World} {v wd cp pr sa : Int} {cx : Cx} (hF : NR w6 bx cv A2 C2 up (rwsN cx up.length true true true true true (.slice Ae cx.ends.length ce, .slice Al cx.cap.toNat cl, .slice Ah cx.prod ch, .slice Ag up.length cg, .slice As up.length cs)) wb)
    (hS : Kd.S (Kd.slice 3 (Kd.int .i64)) 37 w6 b6 (fun _ => True) (.slice A2 up.length C2) up) (hb : base ≤ w6.heap.size) (hx : CxOk v wd cp pr sa up cx) (hck : checkC v wd cp pr up = 0) (hsm : QGc.Sm up) (hu : U64 sa) (hlim : cx.lim = wb.heap.size) :
    Lm base (wb.alloc (.cells #[.int .i64 v, .int .i64 wd, .int .i64 cp, .int .i64 pr, .int .u64 sa, .slice A2 up.length C2, .slice Ae cx.ends.length ce, .int .i64 0, .slice none 0 0, .slice none 0 0, .slice Al cx.cap.toNat cl, .slice Ah cx.prod ch, .slice Ag up.length cg, .slice As up.length cs] 74)) wb.heap.size ⟨v, wd, cp, pr, sa, A2, up.length, C2, Ae, cx.ends.length, ce, none, 0, 0, none, 0, 0, Al, cx.cap.toNat, cl, Ah, cx.prod, ch, Ag, up.length, cg, As, up.length, cs⟩ cx (lpOf wd sa cp) (st0 cx) 0 ∧ ∀ q, OwnB (rowsL ⟨v, wd, cp, pr, sa, A2, up.length, C2, Ae, cx.ends.length, ce, none, 0, 0, none, 0, 0, Al, cx.cap.toNat, cl, Ah, cx.prod, ch, Ag, up.length, cg, As, up.length, cs⟩ (st0 cx)) wb.heap.size q → w6.heap.size ≤ q := by
  have hbl := below_alloc (Below.refl wb.heap.size wb) (.cells #[.int .i64 v, .int .i64 wd, .int .i64 cp, .int .i64 pr, .int .u64 sa, .slice A2 up.length C2, .slice Ae cx.ends.length ce, .int .i64 0, .slice none 0 0, .slice none 0 0, .slice Al cx.cap.toNat cl, .slice Ah cx.prod ch, .slice Ag up.length cg, .slice As up.length cs] 74)
  have h2 := hF.below hbl
  have hlen : up.length = cx.up.length := by rw [hx.uq, List.length_map]
  have hle := hF.b.size
  have hB := heap_alloc_new wb (.cells #[.int .i64 v, .int .i64 wd, .int .i64 cp, .int .i64 pr, .int .u64 sa, .slice A2 up.length C2, .slice Ae cx.ends.length ce, .int .i64 0, .slice none 0 0, .slice none 0 0, .slice Al cx.cap.toNat cl, .slice Ah cx.prod ch, .slice Ag up.length cg, .slice As up.length cs] 74)
  have hhl : (st0 cx).held.map hcs = List.replicate cx.prod [.int .i64 0, .int .i64 0] := by
    show (List.replicate cx.prod hl0).map hcs = _
    rw [List.map_replicate]
    rfl
  have hgl : (st0 cx).gate = List.replicate up.length 0 := by rw [hlen]; rfl
  have hsl : (st0 cx).saw = List.replicate up.length 0 := by rw [hlen]; rfl
  have hrows : rowsL ⟨v, wd, cp, pr, sa, A2, up.length, C2, Ae, cx.ends.length, ce, none, 0, 0, none, 0, 0, Al, cx.cap.toNat, cl, Ah, cx.prod, ch, Ag, up.length, cg, As, up.length, cs⟩ (st0 cx) = [⟨Kd.bool, 4, .slice none 0 0, []⟩, ⟨Kd.int .i64, 3, .slice none 0 0, []⟩] ++ [⟨Kd.int .i64, 3, .slice Al cx.cap.toNat cl, List.replicate cx.cap.toNat 0⟩, ⟨Kd.raw 2, 114, .slice Ah cx.prod ch, List.replicate cx.prod [.int .i64 0, .int .i64 0]⟩, ⟨Kd.int .i64, 3, .slice Ag up.length cg, List.replicate up.length 0⟩, ⟨Kd.int .i64, 3, .slice As up.length cs, List.replicate up.length 0⟩] := by
    unfold rowsL
    rw [hhl, hgl, hsl]
    rfl
  have hat : ∀ (i : Nat) (x : Rw), (rowsL ⟨v, wd, cp, pr, sa, A2, up.length, C2, Ae, cx.ends.length, ce, none, 0, 0, none, 0, 0, Al, cx.cap.toNat, cl, Ah, cx.prod, ch, Ag, up.length, cg, As, up.length, cs⟩ (st0 cx))[i]? = some x → (x.v.ownBlock = none ∧ x.d.R x.e (wb.alloc (.cells #[.int .i64 v, .int .i64 wd, .int .i64 cp, .int .i64 pr, .int .u64 sa, .slice A2 up.length C2, .slice Ae cx.ends.length ce, .int .i64 0, .slice none 0 0, .slice none 0 0, .slice Al cx.cap.toNat cl, .slice Ah cx.prod ch, .slice Ag up.length cg, .slice As up.length cs] 74)) base (fun _ => True) x.v x.xs ∧ x.d.E = [] ∧ x.e ≠ 74) ∨ (2 ≤ i ∧ (rwsN cx up.length true true true true true (.slice Ae cx.ends.length ce, .slice Al cx.cap.toNat cl, .slice Ah cx.prod ch, .slice Ag up.length cg, .slice As up.length cs))[i - 1]? = some (true, x) ∧ x.d.E = [] ∧ x.e ≠ 74) := fun i x hi => by
    rw [hrows] at hi
    match i, hi with
    | 0, hi => injection hi with hi; subst hi; exact .inl ⟨rfl, Kd.R_nil _ _ _ _ _, rfl, show (4 : Nat) ≠ 74 by decide⟩
    | 1, hi => injection hi with hi; subst hi; exact .inl ⟨rfl, Kd.R_nil _ _ _ _ _, rfl, show (3 : Nat) ≠ 74 by decide⟩
    | 2, hi => injection hi with hi; subst hi; exact .inr ⟨by omega, rfl, rfl, show (3 : Nat) ≠ 74 by decide⟩
    | 3, hi => injection hi with hi; subst hi; exact .inr ⟨by omega, rfl, rfl, show (114 : Nat) ≠ 74 by decide⟩
    | 4, hi => injection hi with hi; subst hi; exact .inr ⟨by omega, rfl, rfl, show (3 : Nat) ≠ 74 by decide⟩
    | 5, hi => injection hi with hi; subst hi; exact .inr ⟨by omega, rfl, rfl, show (3 : Nat) ≠ 74 by decide⟩
    | n + 6, hi => cases hi
  have ho : ∀ q, OwnB (rowsL ⟨v, wd, cp, pr, sa, A2, up.length, C2, Ae, cx.ends.length, ce, none, 0, 0, none, 0, 0, Al, cx.cap.toNat, cl, Ah, cx.prod, ch, Ag, up.length, cg, As, up.length, cs⟩ (st0 cx)) wb.heap.size q → w6.heap.size ≤ q := by
    intro q hq
    rcases hq with e | ⟨i, x, hi, hq⟩
    · omega
    · rcases hat i x hi with ⟨h0, _⟩ | ⟨_, h1, _⟩
      · rw [h0] at hq; cases hq
      · exact Kd.R_base (hF.rr _ _ h1) q hq
  have hre0 := hF.rr 0 _ rfl
  have hre := h2.rr 0 _ rfl
  refine ⟨{ x := ?_, b := hB, u := ?_, e := ?_, ec := ⟨rfl, ?_⟩, s := ks_of hx hck hu hsm (Kd.S_reads' hS).2.1, wf := Wf.zero hx.c64.1, i := Nat.zero_le _, lb := by rw [hlim]; exact Nat.le_refl _ }, ho⟩
  · refine { bt := ⟨_, hB⟩, bb := Nat.le_trans hb hle, r := fun i x hi => ?_, E := fun i x hi => ?_, ne := fun i j x y q hij hi hj hq => ?_ }
    · rcases hat i x hi with ⟨_, h1, _⟩ | ⟨_, h1, _⟩
      · exact h1
      · exact Kd.R_lower (h2.rr _ _ h1) hb
    · rcases hat i x hi with ⟨_, _, h1⟩ | ⟨_, _, h1⟩
      · exact h1
      · exact h1
    · rcases hat i x hi with ⟨h1, _⟩ | ⟨h0, h1, _⟩
      · rw [h1] at hq; cases hq
      · rcases hat j y hj with ⟨h3, _⟩ | ⟨h4, h3, _⟩
        · rw [h3]; exact fun e => nomatch e
        · exact hF.ne (i - 1) (j - 1) x y q (by omega) h1 h3 hq
  · rw [show cx.up.map ints = up from hx.uq.symm]
    exact Kd.F_mono (Kd.F_below (Kd.F_bound (Kd.S_F hS)) h2.b) (fun q hq => ⟨fun hown => absurd hq.2 (by have := ho q hown; omega), by rw [hlim]; exact Nat.lt_of_lt_of_le hq.2 hle⟩)
  · refine Kd.F_mono (Kd.R_F (Kd.R_tight rfl hre)) (fun q hq => ⟨fun hown => ?_, by rw [hlim]; exact Kd.R_lt hre0 q hq.symm⟩)
    have hlt := Kd.R_lt hre0 q hq.symm
    rcases hown with e | ⟨i, x, hi, hq2⟩
    · omega
    · rcases hat i x hi with ⟨h1, _⟩ | ⟨h0, h1, _⟩
      · rw [h1] at hq2; cases hq2
      · exact hF.ne 0 (i - 1) _ x q (by omega) rfl h1 hq.symm hq2
  · exact (Kd.R_reads' hre0).2.1
theorem pnew_no (w : World) (v wd cp pr sa : Int) (A : Option Addr) (C : Nat) (up : List (List Int)) (h : Gv w A C up) (hc : checkC v wd cp pr up ≠ 0) : Calls Tryd.prog 8 #[.agg #[.int .i64 v, .int .i64 wd, .int .i64 cp, .int .i64 pr, .int .u64 sa, .slice A up.length C]] w fun e w' => e = .returned (.tuple #[.pointer none, .int .i64 (checkC v wd cp pr up)]) ∧ Below w.heap.size w w' := by
  have hb0 := below_alloc (Below.refl w.heap.size w) (.cells #[.int .i64 v, .int .i64 wd, .int .i64 cp, .int .i64 pr, .int .u64 sa, .slice A up.length C] 25)
  have HX := heap_alloc_new w (.cells #[.int .i64 v, .int .i64 wd, .int .i64 cp, .int .i64 pr, .int .u64 sa, .slice A up.length C] 25)
  have HP := Aside.mk (Mo.pcheck (v := v) (wd := wd) (cp := cp) (pr := pr) (sa := sa) (h.below hb0))
  have t1 : (checkC v wd cp pr up != 0) = true := by simpa using hc
  generalize checkC v wd cp pr up = code at *
  obtain ⟨x0, x1, x2, x3, x4, x5⟩ := Mo.cell6 HX
  have HB := Aside.mk hb0
  clear h hc hb0 HX
  go_enter Tryd.func8, Tryd.ntmps8
  go_upto_region 1 with (fail)
  generalize w.alloc (.cells #[.int .i64 v, .int .i64 wd, .int .i64 cp, .int .i64 pr, .int .u64 sa, .slice A up.length C] 25) = w2 at *
  go_wp2_with fail
  refine HP.out.mono ?_
  rintro r w3 ⟨rfl, hb⟩
  clear x0 x1 x2 x3 x4 x5
  have HB3 := Aside.mk (HB.out.trans (hb.mono HB.out.size))
  clear hb
  go_wp2
  go_ret2
  exact ⟨rfl, HB3.out⟩
set_option maxHeartbeats 32000000 in
theorem pnew (w0 w : World) (h0 : Below w0.heap.size w0 w) (v wd cp pr sa : Int) (A : Option Addr) (C : Nat) (up : List (List Int)) (h : Gv w A C up) (hc : checkC v wd cp pr up = 0) (hu : U64 sa) (hT : Tabled w) (cx : Cx) (hx : CxOk v wd cp pr sa up cx) : Calls Tryd.prog 8 #[.agg #[.int .i64 v, .int .i64 wd, .int .i64 cp, .int .i64 pr, .int .u64 sa, .slice A up.length C]] w fun r W => NewL w W w0.heap.size cx (lpOf wd sa cp) r := by
  have hb0 := below_alloc (Below.refl w.heap.size w) (.cells #[.int .i64 v, .int .i64 wd, .int .i64 cp, .int .i64 pr, .int .u64 sa, .slice A up.length C] 25)
  have HX := heap_alloc_new w (.cells #[.int .i64 v, .int .i64 wd, .int .i64 cp, .int .i64 pr, .int .u64 sa, .slice A up.length C] 25)
  have HP := Aside.mk (Mo.pcheck (v := v) (wd := wd) (cp := cp) (pr := pr) (sa := sa) (h.below hb0))
  rw [hc] at HP
  have HH := Aside.mk h
  have HCK := Aside.mk hc
  have HT := Aside.mk hT
  have HCX := Aside.mk hx
  have HU := Aside.mk hu
  have H0 := Aside.mk h0
  obtain ⟨x0, x1, x2, x3, x4, x5⟩ := Mo.cell6 HX
  have HB := Aside.mk hb0
  have HX' := Aside.mk HX
  clear h hc hu hb0 HX hT hx h0
  go_enter Tryd.func8, Tryd.ntmps8
  go_upto_region 1 with (fail)
  generalize w.alloc (.cells #[.int .i64 v, .int .i64 wd, .int .i64 cp, .int .i64 pr, .int .u64 sa, .slice A up.length C] 25) = w2 at *
  go_wp2_with fail
  refine HP.out.mono ?_
  rintro r w3 ⟨rfl, hb⟩
  clear x0 x1 x2 x3 x4 x5 HP
  replace HX' := Aside.mk (blk_below HX'.out hb)
  obtain ⟨x0, x1, x2, x3, x4, x5⟩ := Mo.cell6 HX'.out
  replace HB := Aside.mk (HB.out.trans (hb.mono HB.out.size))
  clear hb
  have HCP := Aside.mk (QGc.graph_Copy.calls 100 A C up up w3 (HH.out.below HB.out).rd (HH.out.below HB.out).cap (copy_ok up HH.out.sm))
  go_wp2_with fail
  refine HCP.out.mono ?_
  rintro r w4 ⟨v0, rfl, hS, hb⟩
  obtain ⟨A2, C2, e2⟩ := Kd.S_slice hS
  subst e2
  have HS := Aside.mk hS
  clear x0 x1 x2 x3 x4 x5 HCP hS
  replace HX' := Aside.mk (blk_below HX'.out hb)
  obtain ⟨x0, x1, x2, x3, x4, x5⟩ := Mo.cell6 HX'.out
  have f5 := blk_frozen HX'.out 5
  have HB3 := HB
  replace HB := Aside.mk (HB.out.trans (hb.mono HB.out.size))
  clear hb
  go_upto_region 5 with (fail)
  have HX5 := Aside.mk (blk_put (cs' := #[.int .i64 v, .int .i64 wd, .int .i64 cp, .int .i64 pr, .int .u64 sa, .slice A2 up.length C2]) HX'.out 5 (.slice A2 up.length C2) rfl)
  have HB5 := Aside.mk (HB.out.setCell (p := ⟨w.heap.size, 5, none⟩) (Nat.le_refl _) (.slice A2 up.length C2))
  have HS5 := Aside.mk (Kd.S_set HS.out HX'.out (by decide) 5 (.slice A2 up.length C2))
  clear HX' HB HS x0 x1 x2 x3 x4 x5 f5
  generalize w4.setCell ⟨w.heap.size, 5, none⟩ (.slice A2 up.length C2) = w5 at *
  obtain ⟨x0, x1, x2, x3, x4, x5⟩ := Mo.cell6 HX5.out
  go_wp2_with fail
  clear x0 x1 x2 x3 x4 x5
  refine start_ (n := 18) (S := fun w' => w'.cell? ⟨w.heap.size, 0, none⟩ = some (.int .i64 v) ∧ w'.cell? ⟨w.heap.size, 1, none⟩ = some (.int .i64 wd) ∧ w'.cell? ⟨w.heap.size, 2, none⟩ = some (.int .i64 cp) ∧ w'.cell? ⟨w.heap.size, 3, none⟩ = some (.int .i64 pr) ∧ w'.cell? ⟨w.heap.size, 4, none⟩ = some (.int .u64 sa) ∧ w'.cell? ⟨w.heap.size, 5, none⟩ = some (.slice A2 up.length C2) ∧ True) (ds := []) (bm 18 0) (by kernel_rfl) rfl rfl (s6 (blk_drew HX5.out)) (fun hHeld => ?_)
  have hS6 := Kd.S_drew HS5.out
  replace HX5 := Aside.mk (blk_drew HX5.out)
  replace HB5 := Aside.mk (below_drew1 HB5.out)
  have HS6 := Aside.mk hS6
  clear HS5 hS6
  generalize w5.drew = w6 at *
  refine ta_ 0 (bm 18 1) hHeld ?_
  refine pu_ 1 (bm 18 3) ?_
  refine ta_ 2 (bm 18 7) hHeld ?_
  refine pu_ 4 (bm 18 23) ?_
  refine ta_ 5 (bm 18 55) hHeld ?_
  refine pu_ 7 (bm 18 183) ?_
  refine ta_ 8 (bm 18 439) hHeld ?_
  refine pu_ 10 (bm 18 1463) ?_
  refine pu_ 12 (bm 18 5559) ?_
  have HN6 := Aside.mk (show (0 : Int) ≤ cp ∧ (cp).toNat * 8 ≤ 281474976710656 from by have := HCX.out.prod; have := HCX.out.cap; have := HCX.out.c64; have := HCX.out.p4; have := HH.out.sm.1; omega)
  have HN9 := Aside.mk (show (0 : Int) ≤ pr ∧ (pr).toNat * 16 ≤ 281474976710656 from by have := HCX.out.prod; have := HCX.out.cap; have := HCX.out.c64; have := HCX.out.p4; have := HH.out.sm.1; omega)
  have HN11 := Aside.mk (show (0 : Int) ≤ (up.length : Int) ∧ ((up.length : Int)).toNat * 8 ≤ 281474976710656 from by have := HCX.out.prod; have := HCX.out.cap; have := HCX.out.c64; have := HCX.out.p4; have := HH.out.sm.1; omega)
  have HN13 := Aside.mk (show (0 : Int) ≤ (up.length : Int) ∧ ((up.length : Int)).toNat * 8 ≤ 281474976710656 from by have := HCX.out.prod; have := HCX.out.cap; have := HCX.out.c64; have := HCX.out.p4; have := HH.out.sm.1; omega)
  refine join_ (σ := Value × Value × Value × Value × Value) 4 (bm 18 16383) (fun s => [(21, s.1), (24, s.2.1), (27, s.2.2.1), (29, s.2.2.2.1), (31, s.2.2.2.2)]) (fun s wb => NR w6 w.heap.size #[.int .i64 v, .int .i64 wd, .int .i64 cp, .int .i64 pr, .int .u64 sa, .slice A2 up.length C2] A2 C2 up (rwsN cx up.length true true true true true s) wb) (fun s wb hF => ?_) (fun J11111 => ?_)
  ·
    obtain ⟨s1, s2, s3, s4, s5⟩ := s
    obtain ⟨Ae, ce, ee⟩ := Kd.R_slice (hF.rr 0 _ rfl)
    obtain ⟨Al, cl, el⟩ := Kd.R_slice (hF.rr 1 _ rfl)
    obtain ⟨Ah, ch, eh⟩ := Kd.R_slice (hF.rr 2 _ rfl)
    obtain ⟨Ag, cg, eg⟩ := Kd.R_slice (hF.rr 3 _ rfl)
    obtain ⟨As, cs, es⟩ := Kd.R_slice (hF.rr 4 _ rfl)
    simp only at ee el eh eg es
    rw [Mo.ints_len] at ee
    rw [List.length_replicate] at el eh eg es
    subst ee
    subst el
    subst eh
    subst eg
    subst es
    refine norm_ (a' := ?_) ?_ ?_
    rotate_left
    · simp only [putAll, Act.put, List.setIfInBounds_toArray, List.set_cons_zero, List.set_cons_succ, i64_w, i32_w]
      rfl
    have hHeld : (fun w' => w'.cell? ⟨w.heap.size, 0, none⟩ = some (.int .i64 v) ∧ w'.cell? ⟨w.heap.size, 1, none⟩ = some (.int .i64 wd) ∧ w'.cell? ⟨w.heap.size, 2, none⟩ = some (.int .i64 cp) ∧ w'.cell? ⟨w.heap.size, 3, none⟩ = some (.int .i64 pr) ∧ w'.cell? ⟨w.heap.size, 4, none⟩ = some (.int .u64 sa) ∧ w'.cell? ⟨w.heap.size, 5, none⟩ = some (.slice A2 up.length C2) ∧ True) wb := (s6 hF.x)
    refine pu_ 14 (bm 18 32767) ?_
    refine one_ (i := 15) (N := some 33) (bm 18 65535) rfl rfl (by kernel_rfl) (by decide) (fun K hK => ?_)
    refine value_ (v := .pointer (some ⟨wb.heap.size, 0, none⟩)) (w1 := wb.alloc (.cells #[.int .i64 v, .int .i64 wd, .int .i64 cp, .int .i64 pr, .int .u64 sa, .slice A2 up.length C2, .slice Ae cx.ends.length ce, .int .i64 0, .slice none 0 0, .slice none 0 0, .slice Al cx.cap.toNat cl, .slice Ah cx.prod ch, .slice Ag up.length cg, .slice As up.length cs] 74)) (by rfl) rfl ?_ ?_
    · go_simp
    have hF2 := hF.below (below_alloc (Below.refl _ _) (.cells #[.int .i64 v, .int .i64 wd, .int .i64 cp, .int .i64 pr, .int .u64 sa, .slice A2 up.length C2, .slice Ae cx.ends.length ce, .int .i64 0, .slice none 0 0, .slice none 0 0, .slice Al cx.cap.toNat cl, .slice Ah cx.prod ch, .slice Ag up.length cg, .slice As up.length cs] 74))
    refine hK.out _ _ (s6 hF2.x) (fun hHeld => ?_)
    clear hK K
    refine norm_ (a' := ?_) ?_ ?_
    rotate_left
    · show Act.put _ (some 33) _ = _
      simp only [Act.put, List.setIfInBounds_toArray, List.set_cons_zero, List.set_cons_succ, i64_w, i32_w]
      rfl
    refine pu_ 16 (bm 18 131071) ?_
    refine pu_ 17 (bm 18 262143) ?_
    refine done_ (by kernel_rfl) ?_
    obtain ⟨hMM, hown⟩ := NR.lm (cx := { cx with lim := wb.heap.size }) (v := v) (wd := wd) (cp := cp) (pr := pr) (sa := sa) hF HS6.out (Nat.le_trans H0.out.size HB5.out.size) (HCX.out.lim _) HCK.out HH.out.sm HU.out rfl
    have HRES := Aside.mk (And.intro hMM hown)
    have HBB := Aside.mk (HB5.out.trans (hF2.b.mono HB5.out.size))
    have HSZ := Aside.mk HB5.out.size
    clear hMM hown hF hF2 hHeld
    go_wp2
    go_ret2
    exact ⟨⟨wb.heap.size, _, rfl, HRES.out.1, fun q hq => Nat.le_trans HSZ.out (HRES.out.2 q hq), HBB.out⟩⟩
  refine join_ (σ := Value × Value × Value × Value × Value) 5 (bm 18 16375) (fun s => [(24, s.2.1), (27, s.2.2.1), (29, s.2.2.2.1), (31, s.2.2.2.2)]) (fun s wb => NR w6 w.heap.size #[.int .i64 v, .int .i64 wd, .int .i64 cp, .int .i64 pr, .int .u64 sa, .slice A2 up.length C2] A2 C2 up (rwsN cx up.length false true true true true s) wb) (fun s wb hF => ?_) (fun J01111 => ?_)
  ·
    obtain ⟨s1, s2, s3, s4, s5⟩ := s
    refine norm_ (a' := ?_) ?_ ?_
    rotate_left
    · simp only [putAll, Act.put, List.setIfInBounds_toArray, List.set_cons_zero, List.set_cons_succ, i64_w, i32_w]
      rfl
    refine one_ (i := 3) (N := some 21) (bm 18 16383) rfl rfl (by kernel_rfl) (by decide) (fun K hK => ?_)
    refine goes_ Tryd.func33 (by kernel_rfl) rfl #[.slice A2 up.length C2] (by rfl) rfl rfl (by (try simp only [List.map_toArray, List.map_cons, List.map_nil]); first | done | rfl) ?_
    with_reducible refine (ends_okR hF.r HCX.out.ck hF.t).mono ?_
    rintro q wn ⟨Ae, ce, rfl, hre, hb⟩
    refine ⟨_, rfl, ?_⟩
    rw [HCX.out.ends, Mo.ints_len] at hre
    have hF2 := hF.set 0 hb ⟨Kd.int .i64, 3, .slice Ae cx.ends.length ce, ints cx.ends⟩ hre
    refine hK.out _ _ (s6 hF2.x) (fun hHeld => ?_)
    rw [HCX.out.ends, Mo.ints_len]
    exact J11111 (.slice Ae cx.ends.length ce, s2, s3, s4, s5) wn hF2
  refine join_ (σ := Value × Value × Value × Value × Value) 5 (bm 18 16319) (fun s => [(21, s.1), (27, s.2.2.1), (29, s.2.2.2.1), (31, s.2.2.2.2)]) (fun s wb => NR w6 w.heap.size #[.int .i64 v, .int .i64 wd, .int .i64 cp, .int .i64 pr, .int .u64 sa, .slice A2 up.length C2] A2 C2 up (rwsN cx up.length true false true true true s) wb) (fun s wb hF => ?_) (fun J10111 => ?_)
  ·
    obtain ⟨s1, s2, s3, s4, s5⟩ := s
    refine norm_ (a' := ?_) ?_ ?_
    rotate_left
    · simp only [putAll, Act.put, List.setIfInBounds_toArray, List.set_cons_zero, List.set_cons_succ, i64_w, i32_w]
      rfl
    refine one_ (i := 6) (N := some 24) (bm 18 16383) rfl rfl (by kernel_rfl) (by decide) (fun K hK => ?_)
    refine Kd.R_make_step (Kd.int .i64) (w0 := wb) wb.heap.size 3 (by rfl) rfl 37 (.tmp 23) (.tmp 23) rfl cp rfl rfl und_is (.int .i64 0) 8 inf_i rfl (by decide) (by decide) (0 : Int) (ok := fun _ => True) (okp := fun _ => False) (by exact rfl) (fun _ h => h.elim) trivial HN6.out.1 HN6.out.2 (Below.refl _ _) (Nat.le_refl _) ?_
    intro vn wn hr hb hg hat
    obtain ⟨An, cn, en⟩ := Kd.R_slice hr
    subst en
    clear hg hat
    rw [List.length_replicate, show (cp).toNat = cx.cap.toNat by rw [HCX.out.cap]] at hr
    have hF2 := hF.set 1 hb ⟨(Kd.int .i64), 3, .slice An cx.cap.toNat cn, List.replicate cx.cap.toNat (0 : Int)⟩ hr
    refine hK.out _ _ (s6 hF2.x) (fun hHeld => ?_)
    rw [List.length_replicate, show (cp).toNat = cx.cap.toNat by rw [HCX.out.cap]]
    exact J11111 (s1, .slice An cx.cap.toNat cn, s3, s4, s5) wn hF2
  refine join_ (σ := Value × Value × Value × Value × Value) 5 (bm 18 15871) (fun s => [(21, s.1), (24, s.2.1), (29, s.2.2.2.1), (31, s.2.2.2.2)]) (fun s wb => NR w6 w.heap.size #[.int .i64 v, .int .i64 wd, .int .i64 cp, .int .i64 pr, .int .u64 sa, .slice A2 up.length C2] A2 C2 up (rwsN cx up.length true true false true true s) wb) (fun s wb hF => ?_) (fun J11011 => ?_)
  ·
    obtain ⟨s1, s2, s3, s4, s5⟩ := s
    refine norm_ (a' := ?_) ?_ ?_
    rotate_left
    · simp only [putAll, Act.put, List.setIfInBounds_toArray, List.set_cons_zero, List.set_cons_succ, i64_w, i32_w]
      rfl
    refine one_ (i := 9) (N := some 27) (bm 18 16383) rfl rfl (by kernel_rfl) (by decide) (fun K hK => ?_)
    refine Kd.R_make_step (Kd.raw 2) (w0 := wb) wb.heap.size 114 (by rfl) rfl 71 (.tmp 26) (.tmp 26) rfl pr rfl rfl und_hs (.agg #[.int .i64 0, .int .i64 0]) 16 inf_h rfl (by decide) (by decide) [.int .i64 0, .int .i64 0] (ok := fun _ => True) (okp := fun _ => False) (by exact mz2 _ _) (fun _ h => h.elim) trivial HN9.out.1 HN9.out.2 (Below.refl _ _) (Nat.le_refl _) ?_
    intro vn wn hr hb hg hat
    obtain ⟨An, cn, en⟩ := Kd.R_slice hr
    subst en
    clear hg hat
    rw [List.length_replicate, show (pr).toNat = cx.prod by have := HCX.out.prod; omega] at hr
    have hF2 := hF.set 2 hb ⟨(Kd.raw 2), 114, .slice An cx.prod cn, List.replicate cx.prod [.int .i64 0, .int .i64 0]⟩ hr
    refine hK.out _ _ (s6 hF2.x) (fun hHeld => ?_)
    rw [List.length_replicate, show (pr).toNat = cx.prod by have := HCX.out.prod; omega]
    exact J11111 (s1, s2, .slice An cx.prod cn, s4, s5) wn hF2
  refine join_ (σ := Value × Value × Value × Value × Value) 5 (bm 18 14335) (fun s => [(21, s.1), (24, s.2.1), (27, s.2.2.1), (31, s.2.2.2.2)]) (fun s wb => NR w6 w.heap.size #[.int .i64 v, .int .i64 wd, .int .i64 cp, .int .i64 pr, .int .u64 sa, .slice A2 up.length C2] A2 C2 up (rwsN cx up.length true true true false true s) wb) (fun s wb hF => ?_) (fun J11101 => ?_)
  ·
    obtain ⟨s1, s2, s3, s4, s5⟩ := s
    refine norm_ (a' := ?_) ?_ ?_
    rotate_left
    · simp only [putAll, Act.put, List.setIfInBounds_toArray, List.set_cons_zero, List.set_cons_succ, i64_w, i32_w]
      rfl
    refine one_ (i := 11) (N := some 29) (bm 18 16383) rfl rfl (by kernel_rfl) (by decide) (fun K hK => ?_)
    refine Kd.R_make_step (Kd.int .i64) (w0 := wb) wb.heap.size 3 (by rfl) rfl 37 (.tmp 28) (.tmp 28) rfl (up.length : Int) rfl rfl und_is (.int .i64 0) 8 inf_i rfl (by decide) (by decide) (0 : Int) (ok := fun _ => True) (okp := fun _ => False) (by exact rfl) (fun _ h => h.elim) trivial HN11.out.1 HN11.out.2 (Below.refl _ _) (Nat.le_refl _) ?_
    intro vn wn hr hb hg hat
    obtain ⟨An, cn, en⟩ := Kd.R_slice hr
    subst en
    clear hg hat
    rw [List.length_replicate, Int.toNat_natCast] at hr
    have hF2 := hF.set 3 hb ⟨(Kd.int .i64), 3, .slice An up.length cn, List.replicate up.length (0 : Int)⟩ hr
    refine hK.out _ _ (s6 hF2.x) (fun hHeld => ?_)
    rw [List.length_replicate, Int.toNat_natCast]
    exact J11111 (s1, s2, s3, .slice An up.length cn, s5) wn hF2
  refine join_ (σ := Value × Value × Value × Value × Value) 5 (bm 18 8191) (fun s => [(21, s.1), (24, s.2.1), (27, s.2.2.1), (29, s.2.2.2.1)]) (fun s wb => NR w6 w.heap.size #[.int .i64 v, .int .i64 wd, .int .i64 cp, .int .i64 pr, .int .u64 sa, .slice A2 up.length C2] A2 C2 up (rwsN cx up.length true true true true false s) wb) (fun s wb hF => ?_) (fun J11110 => ?_)
  ·
    obtain ⟨s1, s2, s3, s4, s5⟩ := s
    refine norm_ (a' := ?_) ?_ ?_
    rotate_left
    · simp only [putAll, Act.put, List.setIfInBounds_toArray, List.set_cons_zero, List.set_cons_succ, i64_w, i32_w]
      rfl
    refine one_ (i := 13) (N := some 31) (bm 18 16383) rfl rfl (by kernel_rfl) (by decide) (fun K hK => ?_)
    refine Kd.R_make_step (Kd.int .i64) (w0 := wb) wb.heap.size 3 (by rfl) rfl 37 (.tmp 30) (.tmp 30) rfl (up.length : Int) rfl rfl und_is (.int .i64 0) 8 inf_i rfl (by decide) (by decide) (0 : Int) (ok := fun _ => True) (okp := fun _ => False) (by exact rfl) (fun _ h => h.elim) trivial HN13.out.1 HN13.out.2 (Below.refl _ _) (Nat.le_refl _) ?_
    intro vn wn hr hb hg hat
    obtain ⟨An, cn, en⟩ := Kd.R_slice hr
    subst en
    clear hg hat
    rw [List.length_replicate, Int.toNat_natCast] at hr
    have hF2 := hF.set 4 hb ⟨(Kd.int .i64), 3, .slice An up.length cn, List.replicate up.length (0 : Int)⟩ hr
    refine hK.out _ _ (s6 hF2.x) (fun hHeld => ?_)
    rw [List.length_replicate, Int.toNat_natCast]
    exact J11111 (s1, s2, s3, s4, .slice An up.length cn) wn hF2
  refine join_ (σ := Value × Value × Value × Value × Value) 6 (bm 18 16311) (fun s => [(27, s.2.2.1), (29, s.2.2.2.1), (31, s.2.2.2.2)]) (fun s wb => NR w6 w.heap.size #[.int .i64 v, .int .i64 wd, .int .i64 cp, .int .i64 pr, .int .u64 sa, .slice A2 up.length C2] A2 C2 up (rwsN cx up.length false false true true true s) wb) (fun s wb hF => ?_) (fun J00111 => ?_)
  ·
    obtain ⟨s1, s2, s3, s4, s5⟩ := s
    refine norm_ (a' := ?_) ?_ ?_
    rotate_left
    · simp only [putAll, Act.put, List.setIfInBounds_toArray, List.set_cons_zero, List.set_cons_succ, i64_w, i32_w]
      rfl
    refine two_ (i := 3) (j := 6) (Ni := some 21) (Nj := some 24) (bm 18 16319) (bm 18 16375) rfl rfl rfl rfl (by kernel_rfl) (by decide) (by decide) (fun K hK => ?_) (fun K hK => ?_)
    ·
      refine goes_ Tryd.func33 (by kernel_rfl) rfl #[.slice A2 up.length C2] (by rfl) rfl rfl (by (try simp only [List.map_toArray, List.map_cons, List.map_nil]); first | done | rfl) ?_
      with_reducible refine (ends_okR hF.r HCX.out.ck hF.t).mono ?_
      rintro q wn ⟨Ae, ce, rfl, hre, hb⟩
      refine ⟨_, rfl, ?_⟩
      rw [HCX.out.ends, Mo.ints_len] at hre
      have hF2 := hF.set 0 hb ⟨Kd.int .i64, 3, .slice Ae cx.ends.length ce, ints cx.ends⟩ hre
      refine hK.out _ _ (s6 hF2.x) (fun hHeld => ?_)
      rw [HCX.out.ends, Mo.ints_len]
      exact J10111 (.slice Ae cx.ends.length ce, s2, s3, s4, s5) wn hF2
    ·
      refine Kd.R_make_step (Kd.int .i64) (w0 := wb) wb.heap.size 3 (by rfl) rfl 37 (.tmp 23) (.tmp 23) rfl cp rfl rfl und_is (.int .i64 0) 8 inf_i rfl (by decide) (by decide) (0 : Int) (ok := fun _ => True) (okp := fun _ => False) (by exact rfl) (fun _ h => h.elim) trivial HN6.out.1 HN6.out.2 (Below.refl _ _) (Nat.le_refl _) ?_
      intro vn wn hr hb hg hat
      obtain ⟨An, cn, en⟩ := Kd.R_slice hr
      subst en
      clear hg hat
      rw [List.length_replicate, show (cp).toNat = cx.cap.toNat by rw [HCX.out.cap]] at hr
      have hF2 := hF.set 1 hb ⟨(Kd.int .i64), 3, .slice An cx.cap.toNat cn, List.replicate cx.cap.toNat (0 : Int)⟩ hr
      refine hK.out _ _ (s6 hF2.x) (fun hHeld => ?_)
      rw [List.length_replicate, show (cp).toNat = cx.cap.toNat by rw [HCX.out.cap]]
      exact J01111 (s1, .slice An cx.cap.toNat cn, s3, s4, s5) wn hF2
  refine join_ (σ := Value × Value × Value × Value × Value) 6 (bm 18 15863) (fun s => [(24, s.2.1), (29, s.2.2.2.1), (31, s.2.2.2.2)]) (fun s wb => NR w6 w.heap.size #[.int .i64 v, .int .i64 wd, .int .i64 cp, .int .i64 pr, .int .u64 sa, .slice A2 up.length C2] A2 C2 up (rwsN cx up.length false true false true true s) wb) (fun s wb hF => ?_) (fun J01011 => ?_)
  ·
    obtain ⟨s1, s2, s3, s4, s5⟩ := s
    refine norm_ (a' := ?_) ?_ ?_
    rotate_left
    · simp only [putAll, Act.put, List.setIfInBounds_toArray, List.set_cons_zero, List.set_cons_succ, i64_w, i32_w]
      rfl
    refine two_ (i := 3) (j := 9) (Ni := some 21) (Nj := some 27) (bm 18 15871) (bm 18 16375) rfl rfl rfl rfl (by kernel_rfl) (by decide) (by decide) (fun K hK => ?_) (fun K hK => ?_)
    ·
      refine goes_ Tryd.func33 (by kernel_rfl) rfl #[.slice A2 up.length C2] (by rfl) rfl rfl (by (try simp only [List.map_toArray, List.map_cons, List.map_nil]); first | done | rfl) ?_
      with_reducible refine (ends_okR hF.r HCX.out.ck hF.t).mono ?_
      rintro q wn ⟨Ae, ce, rfl, hre, hb⟩
      refine ⟨_, rfl, ?_⟩
      rw [HCX.out.ends, Mo.ints_len] at hre
      have hF2 := hF.set 0 hb ⟨Kd.int .i64, 3, .slice Ae cx.ends.length ce, ints cx.ends⟩ hre
      refine hK.out _ _ (s6 hF2.x) (fun hHeld => ?_)
      rw [HCX.out.ends, Mo.ints_len]
      exact J11011 (.slice Ae cx.ends.length ce, s2, s3, s4, s5) wn hF2
    ·
      refine Kd.R_make_step (Kd.raw 2) (w0 := wb) wb.heap.size 114 (by rfl) rfl 71 (.tmp 26) (.tmp 26) rfl pr rfl rfl und_hs (.agg #[.int .i64 0, .int .i64 0]) 16 inf_h rfl (by decide) (by decide) [.int .i64 0, .int .i64 0] (ok := fun _ => True) (okp := fun _ => False) (by exact mz2 _ _) (fun _ h => h.elim) trivial HN9.out.1 HN9.out.2 (Below.refl _ _) (Nat.le_refl _) ?_
      intro vn wn hr hb hg hat
      obtain ⟨An, cn, en⟩ := Kd.R_slice hr
      subst en
      clear hg hat
      rw [List.length_replicate, show (pr).toNat = cx.prod by have := HCX.out.prod; omega] at hr
      have hF2 := hF.set 2 hb ⟨(Kd.raw 2), 114, .slice An cx.prod cn, List.replicate cx.prod [.int .i64 0, .int .i64 0]⟩ hr
      refine hK.out _ _ (s6 hF2.x) (fun hHeld => ?_)
      rw [List.length_replicate, show (pr).toNat = cx.prod by have := HCX.out.prod; omega]
      exact J01111 (s1, s2, .slice An cx.prod cn, s4, s5) wn hF2
  refine join_ (σ := Value × Value × Value × Value × Value) 6 (bm 18 14327) (fun s => [(24, s.2.1), (27, s.2.2.1), (31, s.2.2.2.2)]) (fun s wb => NR w6 w.heap.size #[.int .i64 v, .int .i64 wd, .int .i64 cp, .int .i64 pr, .int .u64 sa, .slice A2 up.length C2] A2 C2 up (rwsN cx up.length false true true false true s) wb) (fun s wb hF => ?_) (fun J01101 => ?_)
  ·
    obtain ⟨s1, s2, s3, s4, s5⟩ := s
    refine norm_ (a' := ?_) ?_ ?_
    rotate_left
    · simp only [putAll, Act.put, List.setIfInBounds_toArray, List.set_cons_zero, List.set_cons_succ, i64_w, i32_w]
      rfl
    refine two_ (i := 3) (j := 11) (Ni := some 21) (Nj := some 29) (bm 18 14335) (bm 18 16375) rfl rfl rfl rfl (by kernel_rfl) (by decide) (by decide) (fun K hK => ?_) (fun K hK => ?_)
    ·
      refine goes_ Tryd.func33 (by kernel_rfl) rfl #[.slice A2 up.length C2] (by rfl) rfl rfl (by (try simp only [List.map_toArray, List.map_cons, List.map_nil]); first | done | rfl) ?_
      with_reducible refine (ends_okR hF.r HCX.out.ck hF.t).mono ?_
      rintro q wn ⟨Ae, ce, rfl, hre, hb⟩
      refine ⟨_, rfl, ?_⟩
      rw [HCX.out.ends, Mo.ints_len] at hre
      have hF2 := hF.set 0 hb ⟨Kd.int .i64, 3, .slice Ae cx.ends.length ce, ints cx.ends⟩ hre
      refine hK.out _ _ (s6 hF2.x) (fun hHeld => ?_)
      rw [HCX.out.ends, Mo.ints_len]
      exact J11101 (.slice Ae cx.ends.length ce, s2, s3, s4, s5) wn hF2
    ·
      refine Kd.R_make_step (Kd.int .i64) (w0 := wb) wb.heap.size 3 (by rfl) rfl 37 (.tmp 28) (.tmp 28) rfl (up.length : Int) rfl rfl und_is (.int .i64 0) 8 inf_i rfl (by decide) (by decide) (0 : Int) (ok := fun _ => True) (okp := fun _ => False) (by exact rfl) (fun _ h => h.elim) trivial HN11.out.1 HN11.out.2 (Below.refl _ _) (Nat.le_refl _) ?_
      intro vn wn hr hb hg hat
      obtain ⟨An, cn, en⟩ := Kd.R_slice hr
      subst en
      clear hg hat
      rw [List.length_replicate, Int.toNat_natCast] at hr
      have hF2 := hF.set 3 hb ⟨(Kd.int .i64), 3, .slice An up.length cn, List.replicate up.length (0 : Int)⟩ hr
      refine hK.out _ _ (s6 hF2.x) (fun hHeld => ?_)
      rw [List.length_replicate, Int.toNat_natCast]
      exact J01111 (s1, s2, s3, .slice An up.length cn, s5) wn hF2
  refine join_ (σ := Value × Value × Value × Value × Value) 6 (bm 18 8183) (fun s => [(24, s.2.1), (27, s.2.2.1), (29, s.2.2.2.1)]) (fun s wb => NR w6 w.heap.size #[.int .i64 v, .int .i64 wd, .int .i64 cp, .int .i64 pr, .int .u64 sa, .slice A2 up.length C2] A2 C2 up (rwsN cx up.length false true true true false s) wb) (fun s wb hF => ?_) (fun J01110 => ?_)
  ·
    obtain ⟨s1, s2, s3, s4, s5⟩ := s
    refine norm_ (a' := ?_) ?_ ?_
    rotate_left
    · simp only [putAll, Act.put, List.setIfInBounds_toArray, List.set_cons_zero, List.set_cons_succ, i64_w, i32_w]
      rfl
    refine two_ (i := 3) (j := 13) (Ni := some 21) (Nj := some 31) (bm 18 8191) (bm 18 16375) rfl rfl rfl rfl (by kernel_rfl) (by decide) (by decide) (fun K hK => ?_) (fun K hK => ?_)
    ·
      refine goes_ Tryd.func33 (by kernel_rfl) rfl #[.slice A2 up.length C2] (by rfl) rfl rfl (by (try simp only [List.map_toArray, List.map_cons, List.map_nil]); first | done | rfl) ?_
      with_reducible refine (ends_okR hF.r HCX.out.ck hF.t).mono ?_
      rintro q wn ⟨Ae, ce, rfl, hre, hb⟩
      refine ⟨_, rfl, ?_⟩
      rw [HCX.out.ends, Mo.ints_len] at hre
      have hF2 := hF.set 0 hb ⟨Kd.int .i64, 3, .slice Ae cx.ends.length ce, ints cx.ends⟩ hre
      refine hK.out _ _ (s6 hF2.x) (fun hHeld => ?_)
      rw [HCX.out.ends, Mo.ints_len]
      exact J11110 (.slice Ae cx.ends.length ce, s2, s3, s4, s5) wn hF2
    ·
      refine Kd.R_make_step (Kd.int .i64) (w0 := wb) wb.heap.size 3 (by rfl) rfl 37 (.tmp 30) (.tmp 30) rfl (up.length : Int) rfl rfl und_is (.int .i64 0) 8 inf_i rfl (by decide) (by decide) (0 : Int) (ok := fun _ => True) (okp := fun _ => False) (by exact rfl) (fun _ h => h.elim) trivial HN13.out.1 HN13.out.2 (Below.refl _ _) (Nat.le_refl _) ?_
      intro vn wn hr hb hg hat
      obtain ⟨An, cn, en⟩ := Kd.R_slice hr
      subst en
      clear hg hat
      rw [List.length_replicate, Int.toNat_natCast] at hr
      have hF2 := hF.set 4 hb ⟨(Kd.int .i64), 3, .slice An up.length cn, List.replicate up.length (0 : Int)⟩ hr
      refine hK.out _ _ (s6 hF2.x) (fun hHeld => ?_)
      rw [List.length_replicate, Int.toNat_natCast]
      exact J01111 (s1, s2, s3, s4, .slice An up.length cn) wn hF2
  refine join_ (σ := Value × Value × Value × Value × Value) 6 (bm 18 15807) (fun s => [(21, s.1), (29, s.2.2.2.1), (31, s.2.2.2.2)]) (fun s wb => NR w6 w.heap.size #[.int .i64 v, .int .i64 wd, .int .i64 cp, .int .i64 pr, .int .u64 sa, .slice A2 up.length C2] A2 C2 up (rwsN cx up.length true false false true true s) wb) (fun s wb hF => ?_) (fun J10011 => ?_)
  ·
    obtain ⟨s1, s2, s3, s4, s5⟩ := s
    refine norm_ (a' := ?_) ?_ ?_
    rotate_left
    · simp only [putAll, Act.put, List.setIfInBounds_toArray, List.set_cons_zero, List.set_cons_succ, i64_w, i32_w]
      rfl
    refine two_ (i := 6) (j := 9) (Ni := some 24) (Nj := some 27) (bm 18 15871) (bm 18 16319) rfl rfl rfl rfl (by kernel_rfl) (by decide) (by decide) (fun K hK => ?_) (fun K hK => ?_)
    ·
      refine Kd.R_make_step (Kd.int .i64) (w0 := wb) wb.heap.size 3 (by rfl) rfl 37 (.tmp 23) (.tmp 23) rfl cp rfl rfl und_is (.int .i64 0) 8 inf_i rfl (by decide) (by decide) (0 : Int) (ok := fun _ => True) (okp := fun _ => False) (by exact rfl) (fun _ h => h.elim) trivial HN6.out.1 HN6.out.2 (Below.refl _ _) (Nat.le_refl _) ?_
      intro vn wn hr hb hg hat
      obtain ⟨An, cn, en⟩ := Kd.R_slice hr
      subst en
      clear hg hat
      rw [List.length_replicate, show (cp).toNat = cx.cap.toNat by rw [HCX.out.cap]] at hr
      have hF2 := hF.set 1 hb ⟨(Kd.int .i64), 3, .slice An cx.cap.toNat cn, List.replicate cx.cap.toNat (0 : Int)⟩ hr
      refine hK.out _ _ (s6 hF2.x) (fun hHeld => ?_)
      rw [List.length_replicate, show (cp).toNat = cx.cap.toNat by rw [HCX.out.cap]]
      exact J11011 (s1, .slice An cx.cap.toNat cn, s3, s4, s5) wn hF2
    ·
      refine Kd.R_make_step (Kd.raw 2) (w0 := wb) wb.heap.size 114 (by rfl) rfl 71 (.tmp 26) (.tmp 26) rfl pr rfl rfl und_hs (.agg #[.int .i64 0, .int .i64 0]) 16 inf_h rfl (by decide) (by decide) [.int .i64 0, .int .i64 0] (ok := fun _ => True) (okp := fun _ => False) (by exact mz2 _ _) (fun _ h => h.elim) trivial HN9.out.1 HN9.out.2 (Below.refl _ _) (Nat.le_refl _) ?_
      intro vn wn hr hb hg hat
      obtain ⟨An, cn, en⟩ := Kd.R_slice hr
      subst en
      clear hg hat
      rw [List.length_replicate, show (pr).toNat = cx.prod by have := HCX.out.prod; omega] at hr
      have hF2 := hF.set 2 hb ⟨(Kd.raw 2), 114, .slice An cx.prod cn, List.replicate cx.prod [.int .i64 0, .int .i64 0]⟩ hr
      refine hK.out _ _ (s6 hF2.x) (fun hHeld => ?_)
      rw [List.length_replicate, show (pr).toNat = cx.prod by have := HCX.out.prod; omega]
      exact J10111 (s1, s2, .slice An cx.prod cn, s4, s5) wn hF2
  refine join_ (σ := Value × Value × Value × Value × Value) 6 (bm 18 14271) (fun s => [(21, s.1), (27, s.2.2.1), (31, s.2.2.2.2)]) (fun s wb => NR w6 w.heap.size #[.int .i64 v, .int .i64 wd, .int .i64 cp, .int .i64 pr, .int .u64 sa, .slice A2 up.length C2] A2 C2 up (rwsN cx up.length true false true false true s) wb) (fun s wb hF => ?_) (fun J10101 => ?_)
  ·
    obtain ⟨s1, s2, s3, s4, s5⟩ := s
    refine norm_ (a' := ?_) ?_ ?_
    rotate_left
    · simp only [putAll, Act.put, List.setIfInBounds_toArray, List.set_cons_zero, List.set_cons_succ, i64_w, i32_w]
      rfl
    refine two_ (i := 6) (j := 11) (Ni := some 24) (Nj := some 29) (bm 18 14335) (bm 18 16319) rfl rfl rfl rfl (by kernel_rfl) (by decide) (by decide) (fun K hK => ?_) (fun K hK => ?_)
    ·
      refine Kd.R_make_step (Kd.int .i64) (w0 := wb) wb.heap.size 3 (by rfl) rfl 37 (.tmp 23) (.tmp 23) rfl cp rfl rfl und_is (.int .i64 0) 8 inf_i rfl (by decide) (by decide) (0 : Int) (ok := fun _ => True) (okp := fun _ => False) (by exact rfl) (fun _ h => h.elim) trivial HN6.out.1 HN6.out.2 (Below.refl _ _) (Nat.le_refl _) ?_
      intro vn wn hr hb hg hat
      obtain ⟨An, cn, en⟩ := Kd.R_slice hr
      subst en
      clear hg hat
      rw [List.length_replicate, show (cp).toNat = cx.cap.toNat by rw [HCX.out.cap]] at hr
      have hF2 := hF.set 1 hb ⟨(Kd.int .i64), 3, .slice An cx.cap.toNat cn, List.replicate cx.cap.toNat (0 : Int)⟩ hr
      refine hK.out _ _ (s6 hF2.x) (fun hHeld => ?_)
      rw [List.length_replicate, show (cp).toNat = cx.cap.toNat by rw [HCX.out.cap]]
      exact J11101 (s1, .slice An cx.cap.toNat cn, s3, s4, s5) wn hF2
    ·
      refine Kd.R_make_step (Kd.int .i64) (w0 := wb) wb.heap.size 3 (by rfl) rfl 37 (.tmp 28) (.tmp 28) rfl (up.length : Int) rfl rfl und_is (.int .i64 0) 8 inf_i rfl (by decide) (by decide) (0 : Int) (ok := fun _ => True) (okp := fun _ => False) (by exact rfl) (fun _ h => h.elim) trivial HN11.out.1 HN11.out.2 (Below.refl _ _) (Nat.le_refl _) ?_
      intro vn wn hr hb hg hat
      obtain ⟨An, cn, en⟩ := Kd.R_slice hr
      subst en
      clear hg hat
      rw [List.length_replicate, Int.toNat_natCast] at hr
      have hF2 := hF.set 3 hb ⟨(Kd.int .i64), 3, .slice An up.length cn, List.replicate up.length (0 : Int)⟩ hr
      refine hK.out _ _ (s6 hF2.x) (fun hHeld => ?_)
      rw [List.length_replicate, Int.toNat_natCast]
      exact J10111 (s1, s2, s3, .slice An up.length cn, s5) wn hF2
  refine join_ (σ := Value × Value × Value × Value × Value) 6 (bm 18 8127) (fun s => [(21, s.1), (27, s.2.2.1), (29, s.2.2.2.1)]) (fun s wb => NR w6 w.heap.size #[.int .i64 v, .int .i64 wd, .int .i64 cp, .int .i64 pr, .int .u64 sa, .slice A2 up.length C2] A2 C2 up (rwsN cx up.length true false true true false s) wb) (fun s wb hF => ?_) (fun J10110 => ?_)
  ·
    obtain ⟨s1, s2, s3, s4, s5⟩ := s
    refine norm_ (a' := ?_) ?_ ?_
    rotate_left
    · simp only [putAll, Act.put, List.setIfInBounds_toArray, List.set_cons_zero, List.set_cons_succ, i64_w, i32_w]
      rfl
    refine two_ (i := 6) (j := 13) (Ni := some 24) (Nj := some 31) (bm 18 8191) (bm 18 16319) rfl rfl rfl rfl (by kernel_rfl) (by decide) (by decide) (fun K hK => ?_) (fun K hK => ?_)
    ·
      refine Kd.R_make_step (Kd.int .i64) (w0 := wb) wb.heap.size 3 (by rfl) rfl 37 (.tmp 23) (.tmp 23) rfl cp rfl rfl und_is (.int .i64 0) 8 inf_i rfl (by decide) (by decide) (0 : Int) (ok := fun _ => True) (okp := fun _ => False) (by exact rfl) (fun _ h => h.elim) trivial HN6.out.1 HN6.out.2 (Below.refl _ _) (Nat.le_refl _) ?_
      intro vn wn hr hb hg hat
      obtain ⟨An, cn, en⟩ := Kd.R_slice hr
      subst en
      clear hg hat
      rw [List.length_replicate, show (cp).toNat = cx.cap.toNat by rw [HCX.out.cap]] at hr
      have hF2 := hF.set 1 hb ⟨(Kd.int .i64), 3, .slice An cx.cap.toNat cn, List.replicate cx.cap.toNat (0 : Int)⟩ hr
      refine hK.out _ _ (s6 hF2.x) (fun hHeld => ?_)
      rw [List.length_replicate, show (cp).toNat = cx.cap.toNat by rw [HCX.out.cap]]
      exact J11110 (s1, .slice An cx.cap.toNat cn, s3, s4, s5) wn hF2
    ·
      refine Kd.R_make_step (Kd.int .i64) (w0 := wb) wb.heap.size 3 (by rfl) rfl 37 (.tmp 30) (.tmp 30) rfl (up.length : Int) rfl rfl und_is (.int .i64 0) 8 inf_i rfl (by decide) (by decide) (0 : Int) (ok := fun _ => True) (okp := fun _ => False) (by exact rfl) (fun _ h => h.elim) trivial HN13.out.1 HN13.out.2 (Below.refl _ _) (Nat.le_refl _) ?_
      intro vn wn hr hb hg hat
      obtain ⟨An, cn, en⟩ := Kd.R_slice hr
      subst en
      clear hg hat
      rw [List.length_replicate, Int.toNat_natCast] at hr
      have hF2 := hF.set 4 hb ⟨(Kd.int .i64), 3, .slice An up.length cn, List.replicate up.length (0 : Int)⟩ hr
      refine hK.out _ _ (s6 hF2.x) (fun hHeld => ?_)
      rw [List.length_replicate, Int.toNat_natCast]
      exact J10111 (s1, s2, s3, s4, .slice An up.length cn) wn hF2
  refine join_ (σ := Value × Value × Value × Value × Value) 6 (bm 18 13823) (fun s => [(21, s.1), (24, s.2.1), (31, s.2.2.2.2)]) (fun s wb => NR w6 w.heap.size #[.int .i64 v, .int .i64 wd, .int .i64 cp, .int .i64 pr, .int .u64 sa, .slice A2 up.length C2] A2 C2 up (rwsN cx up.length true true false false true s) wb) (fun s wb hF => ?_) (fun J11001 => ?_)
  ·
    obtain ⟨s1, s2, s3, s4, s5⟩ := s
    refine norm_ (a' := ?_) ?_ ?_
    rotate_left
    · simp only [putAll, Act.put, List.setIfInBounds_toArray, List.set_cons_zero, List.set_cons_succ, i64_w, i32_w]
      rfl
    refine two_ (i := 9) (j := 11) (Ni := some 27) (Nj := some 29) (bm 18 14335) (bm 18 15871) rfl rfl rfl rfl (by kernel_rfl) (by decide) (by decide) (fun K hK => ?_) (fun K hK => ?_)
    ·
      refine Kd.R_make_step (Kd.raw 2) (w0 := wb) wb.heap.size 114 (by rfl) rfl 71 (.tmp 26) (.tmp 26) rfl pr rfl rfl und_hs (.agg #[.int .i64 0, .int .i64 0]) 16 inf_h rfl (by decide) (by decide) [.int .i64 0, .int .i64 0] (ok := fun _ => True) (okp := fun _ => False) (by exact mz2 _ _) (fun _ h => h.elim) trivial HN9.out.1 HN9.out.2 (Below.refl _ _) (Nat.le_refl _) ?_
      intro vn wn hr hb hg hat
      obtain ⟨An, cn, en⟩ := Kd.R_slice hr
      subst en
      clear hg hat
      rw [List.length_replicate, show (pr).toNat = cx.prod by have := HCX.out.prod; omega] at hr
      have hF2 := hF.set 2 hb ⟨(Kd.raw 2), 114, .slice An cx.prod cn, List.replicate cx.prod [.int .i64 0, .int .i64 0]⟩ hr
      refine hK.out _ _ (s6 hF2.x) (fun hHeld => ?_)
      rw [List.length_replicate, show (pr).toNat = cx.prod by have := HCX.out.prod; omega]
      exact J11101 (s1, s2, .slice An cx.prod cn, s4, s5) wn hF2
    ·
      refine Kd.R_make_step (Kd.int .i64) (w0 := wb) wb.heap.size 3 (by rfl) rfl 37 (.tmp 28) (.tmp 28) rfl (up.length : Int) rfl rfl und_is (.int .i64 0) 8 inf_i rfl (by decide) (by decide) (0 : Int) (ok := fun _ => True) (okp := fun _ => False) (by exact rfl) (fun _ h => h.elim) trivial HN11.out.1 HN11.out.2 (Below.refl _ _) (Nat.le_refl _) ?_
      intro vn wn hr hb hg hat
      obtain ⟨An, cn, en⟩ := Kd.R_slice hr
      subst en
      clear hg hat
      rw [List.length_replicate, Int.toNat_natCast] at hr
      have hF2 := hF.set 3 hb ⟨(Kd.int .i64), 3, .slice An up.length cn, List.replicate up.length (0 : Int)⟩ hr
      refine hK.out _ _ (s6 hF2.x) (fun hHeld => ?_)
      rw [List.length_replicate, Int.toNat_natCast]
      exact J11011 (s1, s2, s3, .slice An up.length cn, s5) wn hF2
  refine join_ (σ := Value × Value × Value × Value × Value) 6 (bm 18 7679) (fun s => [(21, s.1), (24, s.2.1), (29, s.2.2.2.1)]) (fun s wb => NR w6 w.heap.size #[.int .i64 v, .int .i64 wd, .int .i64 cp, .int .i64 pr, .int .u64 sa, .slice A2 up.length C2] A2 C2 up (rwsN cx up.length true true false true false s) wb) (fun s wb hF => ?_) (fun J11010 => ?_)
  ·
    obtain ⟨s1, s2, s3, s4, s5⟩ := s
    refine norm_ (a' := ?_) ?_ ?_
    rotate_left
    · simp only [putAll, Act.put, List.setIfInBounds_toArray, List.set_cons_zero, List.set_cons_succ, i64_w, i32_w]
      rfl
    refine two_ (i := 9) (j := 13) (Ni := some 27) (Nj := some 31) (bm 18 8191) (bm 18 15871) rfl rfl rfl rfl (by kernel_rfl) (by decide) (by decide) (fun K hK => ?_) (fun K hK => ?_)
    ·
      refine Kd.R_make_step (Kd.raw 2) (w0 := wb) wb.heap.size 114 (by rfl) rfl 71 (.tmp 26) (.tmp 26) rfl pr rfl rfl und_hs (.agg #[.int .i64 0, .int .i64 0]) 16 inf_h rfl (by decide) (by decide) [.int .i64 0, .int .i64 0] (ok := fun _ => True) (okp := fun _ => False) (by exact mz2 _ _) (fun _ h => h.elim) trivial HN9.out.1 HN9.out.2 (Below.refl _ _) (Nat.le_refl _) ?_
      intro vn wn hr hb hg hat
      obtain ⟨An, cn, en⟩ := Kd.R_slice hr
      subst en
      clear hg hat
      rw [List.length_replicate, show (pr).toNat = cx.prod by have := HCX.out.prod; omega] at hr
      have hF2 := hF.set 2 hb ⟨(Kd.raw 2), 114, .slice An cx.prod cn, List.replicate cx.prod [.int .i64 0, .int .i64 0]⟩ hr
      refine hK.out _ _ (s6 hF2.x) (fun hHeld => ?_)
      rw [List.length_replicate, show (pr).toNat = cx.prod by have := HCX.out.prod; omega]
      exact J11110 (s1, s2, .slice An cx.prod cn, s4, s5) wn hF2
    ·
      refine Kd.R_make_step (Kd.int .i64) (w0 := wb) wb.heap.size 3 (by rfl) rfl 37 (.tmp 30) (.tmp 30) rfl (up.length : Int) rfl rfl und_is (.int .i64 0) 8 inf_i rfl (by decide) (by decide) (0 : Int) (ok := fun _ => True) (okp := fun _ => False) (by exact rfl) (fun _ h => h.elim) trivial HN13.out.1 HN13.out.2 (Below.refl _ _) (Nat.le_refl _) ?_
      intro vn wn hr hb hg hat
      obtain ⟨An, cn, en⟩ := Kd.R_slice hr
      subst en
      clear hg hat
      rw [List.length_replicate, Int.toNat_natCast] at hr
      have hF2 := hF.set 4 hb ⟨(Kd.int .i64), 3, .slice An up.length cn, List.replicate up.length (0 : Int)⟩ hr
      refine hK.out _ _ (s6 hF2.x) (fun hHeld => ?_)
      rw [List.length_replicate, Int.toNat_natCast]
      exact J11011 (s1, s2, s3, s4, .slice An up.length cn) wn hF2
  refine join_ (σ := Value × Value × Value × Value × Value) 6 (bm 18 6143) (fun s => [(21, s.1), (24, s.2.1), (27, s.2.2.1)]) (fun s wb => NR w6 w.heap.size #[.int .i64 v, .int .i64 wd, .int .i64 cp, .int .i64 pr, .int .u64 sa, .slice A2 up.length C2] A2 C2 up (rwsN cx up.length true true true false false s) wb) (fun s wb hF => ?_) (fun J11100 => ?_)
  ·
    obtain ⟨s1, s2, s3, s4, s5⟩ := s
    refine norm_ (a' := ?_) ?_ ?_
    rotate_left
    · simp only [putAll, Act.put, List.setIfInBounds_toArray, List.set_cons_zero, List.set_cons_succ, i64_w, i32_w]
      rfl
    refine two_ (i := 11) (j := 13) (Ni := some 29) (Nj := some 31) (bm 18 8191) (bm 18 14335) rfl rfl rfl rfl (by kernel_rfl) (by decide) (by decide) (fun K hK => ?_) (fun K hK => ?_)
    ·
      refine Kd.R_make_step (Kd.int .i64) (w0 := wb) wb.heap.size 3 (by rfl) rfl 37 (.tmp 28) (.tmp 28) rfl (up.length : Int) rfl rfl und_is (.int .i64 0) 8 inf_i rfl (by decide) (by decide) (0 : Int) (ok := fun _ => True) (okp := fun _ => False) (by exact rfl) (fun _ h => h.elim) trivial HN11.out.1 HN11.out.2 (Below.refl _ _) (Nat.le_refl _) ?_
      intro vn wn hr hb hg hat
      obtain ⟨An, cn, en⟩ := Kd.R_slice hr
      subst en
      clear hg hat
      rw [List.length_replicate, Int.toNat_natCast] at hr
      have hF2 := hF.set 3 hb ⟨(Kd.int .i64), 3, .slice An up.length cn, List.replicate up.length (0 : Int)⟩ hr
      refine hK.out _ _ (s6 hF2.x) (fun hHeld => ?_)
      rw [List.length_replicate, Int.toNat_natCast]
      exact J11110 (s1, s2, s3, .slice An up.length cn, s5) wn hF2
    ·
      refine Kd.R_make_step (Kd.int .i64) (w0 := wb) wb.heap.size 3 (by rfl) rfl 37 (.tmp 30) (.tmp 30) rfl (up.length : Int) rfl rfl und_is (.int .i64 0) 8 inf_i rfl (by decide) (by decide) (0 : Int) (ok := fun _ => True) (okp := fun _ => False) (by exact rfl) (fun _ h => h.elim) trivial HN13.out.1 HN13.out.2 (Below.refl _ _) (Nat.le_refl _) ?_
      intro vn wn hr hb hg hat
      obtain ⟨An, cn, en⟩ := Kd.R_slice hr
      subst en
      clear hg hat
      rw [List.length_replicate, Int.toNat_natCast] at hr
      have hF2 := hF.set 4 hb ⟨(Kd.int .i64), 3, .slice An up.length cn, List.replicate up.length (0 : Int)⟩ hr
      refine hK.out _ _ (s6 hF2.x) (fun hHeld => ?_)
      rw [List.length_replicate, Int.toNat_natCast]
      exact J11101 (s1, s2, s3, s4, .slice An up.length cn) wn hF2
  refine join_ (σ := Value × Value × Value × Value × Value) 7 (bm 18 15799) (fun s => [(29, s.2.2.2.1), (31, s.2.2.2.2)]) (fun s wb => NR w6 w.heap.size #[.int .i64 v, .int .i64 wd, .int .i64 cp, .int .i64 pr, .int .u64 sa, .slice A2 up.length C2] A2 C2 up (rwsN cx up.length false false false true true s) wb) (fun s wb hF => ?_) (fun J00011 => ?_)
  ·
    obtain ⟨s1, s2, s3, s4, s5⟩ := s
    refine norm_ (a' := ?_) ?_ ?_
    rotate_left
    · simp only [putAll, Act.put, List.setIfInBounds_toArray, List.set_cons_zero, List.set_cons_succ, i64_w, i32_w]
      rfl
    refine three_ (i := 3) (j := 6) (k := 9) (Ni := some 21) (Nj := some 24) (Nk := some 27) (bm 18 15807) (bm 18 15863) (bm 18 16311) rfl rfl rfl rfl rfl rfl (by kernel_rfl) (by decide) (by decide) (by decide) (fun K hK => ?_) (fun K hK => ?_) (fun K hK => ?_)
    ·
      refine goes_ Tryd.func33 (by kernel_rfl) rfl #[.slice A2 up.length C2] (by rfl) rfl rfl (by (try simp only [List.map_toArray, List.map_cons, List.map_nil]); first | done | rfl) ?_
      with_reducible refine (ends_okR hF.r HCX.out.ck hF.t).mono ?_
      rintro q wn ⟨Ae, ce, rfl, hre, hb⟩
      refine ⟨_, rfl, ?_⟩
      rw [HCX.out.ends, Mo.ints_len] at hre
      have hF2 := hF.set 0 hb ⟨Kd.int .i64, 3, .slice Ae cx.ends.length ce, ints cx.ends⟩ hre
      refine hK.out _ _ (s6 hF2.x) (fun hHeld => ?_)
      rw [HCX.out.ends, Mo.ints_len]
      exact J10011 (.slice Ae cx.ends.length ce, s2, s3, s4, s5) wn hF2
    ·
      refine Kd.R_make_step (Kd.int .i64) (w0 := wb) wb.heap.size 3 (by rfl) rfl 37 (.tmp 23) (.tmp 23) rfl cp rfl rfl und_is (.int .i64 0) 8 inf_i rfl (by decide) (by decide) (0 : Int) (ok := fun _ => True) (okp := fun _ => False) (by exact rfl) (fun _ h => h.elim) trivial HN6.out.1 HN6.out.2 (Below.refl _ _) (Nat.le_refl _) ?_
      intro vn wn hr hb hg hat
      obtain ⟨An, cn, en⟩ := Kd.R_slice hr
      subst en
      clear hg hat
      rw [List.length_replicate, show (cp).toNat = cx.cap.toNat by rw [HCX.out.cap]] at hr
      have hF2 := hF.set 1 hb ⟨(Kd.int .i64), 3, .slice An cx.cap.toNat cn, List.replicate cx.cap.toNat (0 : Int)⟩ hr
      refine hK.out _ _ (s6 hF2.x) (fun hHeld => ?_)
      rw [List.length_replicate, show (cp).toNat = cx.cap.toNat by rw [HCX.out.cap]]
      exact J01011 (s1, .slice An cx.cap.toNat cn, s3, s4, s5) wn hF2
    ·
      refine Kd.R_make_step (Kd.raw 2) (w0 := wb) wb.heap.size 114 (by rfl) rfl 71 (.tmp 26) (.tmp 26) rfl pr rfl rfl und_hs (.agg #[.int .i64 0, .int .i64 0]) 16 inf_h rfl (by decide) (by decide) [.int .i64 0, .int .i64 0] (ok := fun _ => True) (okp := fun _ => False) (by exact mz2 _ _) (fun _ h => h.elim) trivial HN9.out.1 HN9.out.2 (Below.refl _ _) (Nat.le_refl _) ?_
      intro vn wn hr hb hg hat
      obtain ⟨An, cn, en⟩ := Kd.R_slice hr
      subst en
      clear hg hat
      rw [List.length_replicate, show (pr).toNat = cx.prod by have := HCX.out.prod; omega] at hr
      have hF2 := hF.set 2 hb ⟨(Kd.raw 2), 114, .slice An cx.prod cn, List.replicate cx.prod [.int .i64 0, .int .i64 0]⟩ hr
      refine hK.out _ _ (s6 hF2.x) (fun hHeld => ?_)
      rw [List.length_replicate, show (pr).toNat = cx.prod by have := HCX.out.prod; omega]
      exact J00111 (s1, s2, .slice An cx.prod cn, s4, s5) wn hF2
  refine join_ (σ := Value × Value × Value × Value × Value) 7 (bm 18 14263) (fun s => [(27, s.2.2.1), (31, s.2.2.2.2)]) (fun s wb => NR w6 w.heap.size #[.int .i64 v, .int .i64 wd, .int .i64 cp, .int .i64 pr, .int .u64 sa, .slice A2 up.length C2] A2 C2 up (rwsN cx up.length false false true false true s) wb) (fun s wb hF => ?_) (fun J00101 => ?_)
  ·
    obtain ⟨s1, s2, s3, s4, s5⟩ := s
    refine norm_ (a' := ?_) ?_ ?_
    rotate_left
    · simp only [putAll, Act.put, List.setIfInBounds_toArray, List.set_cons_zero, List.set_cons_succ, i64_w, i32_w]
      rfl
    refine three_ (i := 3) (j := 6) (k := 11) (Ni := some 21) (Nj := some 24) (Nk := some 29) (bm 18 14271) (bm 18 14327) (bm 18 16311) rfl rfl rfl rfl rfl rfl (by kernel_rfl) (by decide) (by decide) (by decide) (fun K hK => ?_) (fun K hK => ?_) (fun K hK => ?_)
    ·
      refine goes_ Tryd.func33 (by kernel_rfl) rfl #[.slice A2 up.length C2] (by rfl) rfl rfl (by (try simp only [List.map_toArray, List.map_cons, List.map_nil]); first | done | rfl) ?_
      with_reducible refine (ends_okR hF.r HCX.out.ck hF.t).mono ?_
      rintro q wn ⟨Ae, ce, rfl, hre, hb⟩
      refine ⟨_, rfl, ?_⟩
      rw [HCX.out.ends, Mo.ints_len] at hre
      have hF2 := hF.set 0 hb ⟨Kd.int .i64, 3, .slice Ae cx.ends.length ce, ints cx.ends⟩ hre
      refine hK.out _ _ (s6 hF2.x) (fun hHeld => ?_)
      rw [HCX.out.ends, Mo.ints_len]
      exact J10101 (.slice Ae cx.ends.length ce, s2, s3, s4, s5) wn hF2
    ·
      refine Kd.R_make_step (Kd.int .i64) (w0 := wb) wb.heap.size 3 (by rfl) rfl 37 (.tmp 23) (.tmp 23) rfl cp rfl rfl und_is (.int .i64 0) 8 inf_i rfl (by decide) (by decide) (0 : Int) (ok := fun _ => True) (okp := fun _ => False) (by exact rfl) (fun _ h => h.elim) trivial HN6.out.1 HN6.out.2 (Below.refl _ _) (Nat.le_refl _) ?_
      intro vn wn hr hb hg hat
      obtain ⟨An, cn, en⟩ := Kd.R_slice hr
      subst en
      clear hg hat
      rw [List.length_replicate, show (cp).toNat = cx.cap.toNat by rw [HCX.out.cap]] at hr
      have hF2 := hF.set 1 hb ⟨(Kd.int .i64), 3, .slice An cx.cap.toNat cn, List.replicate cx.cap.toNat (0 : Int)⟩ hr
      refine hK.out _ _ (s6 hF2.x) (fun hHeld => ?_)
      rw [List.length_replicate, show (cp).toNat = cx.cap.toNat by rw [HCX.out.cap]]
      exact J01101 (s1, .slice An cx.cap.toNat cn, s3, s4, s5) wn hF2
    ·
      refine Kd.R_make_step (Kd.int .i64) (w0 := wb) wb.heap.size 3 (by rfl) rfl 37 (.tmp 28) (.tmp 28) rfl (up.length : Int) rfl rfl und_is (.int .i64 0) 8 inf_i rfl (by decide) (by decide) (0 : Int) (ok := fun _ => True) (okp := fun _ => False) (by exact rfl) (fun _ h => h.elim) trivial HN11.out.1 HN11.out.2 (Below.refl _ _) (Nat.le_refl _) ?_
      intro vn wn hr hb hg hat
      obtain ⟨An, cn, en⟩ := Kd.R_slice hr
      subst en
      clear hg hat
      rw [List.length_replicate, Int.toNat_natCast] at hr
      have hF2 := hF.set 3 hb ⟨(Kd.int .i64), 3, .slice An up.length cn, List.replicate up.length (0 : Int)⟩ hr
      refine hK.out _ _ (s6 hF2.x) (fun hHeld => ?_)
      rw [List.length_replicate, Int.toNat_natCast]
      exact J00111 (s1, s2, s3, .slice An up.length cn, s5) wn hF2
  refine join_ (σ := Value × Value × Value × Value × Value) 7 (bm 18 8119) (fun s => [(27, s.2.2.1), (29, s.2.2.2.1)]) (fun s wb => NR w6 w.heap.size #[.int .i64 v, .int .i64 wd, .int .i64 cp, .int .i64 pr, .int .u64 sa, .slice A2 up.length C2] A2 C2 up (rwsN cx up.length false false true true false s) wb) (fun s wb hF => ?_) (fun J00110 => ?_)
  ·
    obtain ⟨s1, s2, s3, s4, s5⟩ := s
    refine norm_ (a' := ?_) ?_ ?_
    rotate_left
    · simp only [putAll, Act.put, List.setIfInBounds_toArray, List.set_cons_zero, List.set_cons_succ, i64_w, i32_w]
      rfl
    refine three_ (i := 3) (j := 6) (k := 13) (Ni := some 21) (Nj := some 24) (Nk := some 31) (bm 18 8127) (bm 18 8183) (bm 18 16311) rfl rfl rfl rfl rfl rfl (by kernel_rfl) (by decide) (by decide) (by decide) (fun K hK => ?_) (fun K hK => ?_) (fun K hK => ?_)
    ·
      refine goes_ Tryd.func33 (by kernel_rfl) rfl #[.slice A2 up.length C2] (by rfl) rfl rfl (by (try simp only [List.map_toArray, List.map_cons, List.map_nil]); first | done | rfl) ?_
      with_reducible refine (ends_okR hF.r HCX.out.ck hF.t).mono ?_
      rintro q wn ⟨Ae, ce, rfl, hre, hb⟩
      refine ⟨_, rfl, ?_⟩
      rw [HCX.out.ends, Mo.ints_len] at hre
      have hF2 := hF.set 0 hb ⟨Kd.int .i64, 3, .slice Ae cx.ends.length ce, ints cx.ends⟩ hre
      refine hK.out _ _ (s6 hF2.x) (fun hHeld => ?_)
      rw [HCX.out.ends, Mo.ints_len]
      exact J10110 (.slice Ae cx.ends.length ce, s2, s3, s4, s5) wn hF2
    ·
      refine Kd.R_make_step (Kd.int .i64) (w0 := wb) wb.heap.size 3 (by rfl) rfl 37 (.tmp 23) (.tmp 23) rfl cp rfl rfl und_is (.int .i64 0) 8 inf_i rfl (by decide) (by decide) (0 : Int) (ok := fun _ => True) (okp := fun _ => False) (by exact rfl) (fun _ h => h.elim) trivial HN6.out.1 HN6.out.2 (Below.refl _ _) (Nat.le_refl _) ?_
      intro vn wn hr hb hg hat
      obtain ⟨An, cn, en⟩ := Kd.R_slice hr
      subst en
      clear hg hat
      rw [List.length_replicate, show (cp).toNat = cx.cap.toNat by rw [HCX.out.cap]] at hr
      have hF2 := hF.set 1 hb ⟨(Kd.int .i64), 3, .slice An cx.cap.toNat cn, List.replicate cx.cap.toNat (0 : Int)⟩ hr
      refine hK.out _ _ (s6 hF2.x) (fun hHeld => ?_)
      rw [List.length_replicate, show (cp).toNat = cx.cap.toNat by rw [HCX.out.cap]]
      exact J01110 (s1, .slice An cx.cap.toNat cn, s3, s4, s5) wn hF2
    ·
      refine Kd.R_make_step (Kd.int .i64) (w0 := wb) wb.heap.size 3 (by rfl) rfl 37 (.tmp 30) (.tmp 30) rfl (up.length : Int) rfl rfl und_is (.int .i64 0) 8 inf_i rfl (by decide) (by decide) (0 : Int) (ok := fun _ => True) (okp := fun _ => False) (by exact rfl) (fun _ h => h.elim) trivial HN13.out.1 HN13.out.2 (Below.refl _ _) (Nat.le_refl _) ?_
      intro vn wn hr hb hg hat
      obtain ⟨An, cn, en⟩ := Kd.R_slice hr
      subst en
      clear hg hat
      rw [List.length_replicate, Int.toNat_natCast] at hr
      have hF2 := hF.set 4 hb ⟨(Kd.int .i64), 3, .slice An up.length cn, List.replicate up.length (0 : Int)⟩ hr
      refine hK.out _ _ (s6 hF2.x) (fun hHeld => ?_)
      rw [List.length_replicate, Int.toNat_natCast]
      exact J00111 (s1, s2, s3, s4, .slice An up.length cn) wn hF2
  refine join_ (σ := Value × Value × Value × Value × Value) 7 (bm 18 13815) (fun s => [(24, s.2.1), (31, s.2.2.2.2)]) (fun s wb => NR w6 w.heap.size #[.int .i64 v, .int .i64 wd, .int .i64 cp, .int .i64 pr, .int .u64 sa, .slice A2 up.length C2] A2 C2 up (rwsN cx up.length false true false false true s) wb) (fun s wb hF => ?_) (fun J01001 => ?_)
  ·
    obtain ⟨s1, s2, s3, s4, s5⟩ := s
    refine norm_ (a' := ?_) ?_ ?_
    rotate_left
    · simp only [putAll, Act.put, List.setIfInBounds_toArray, List.set_cons_zero, List.set_cons_succ, i64_w, i32_w]
      rfl
    refine three_ (i := 3) (j := 9) (k := 11) (Ni := some 21) (Nj := some 27) (Nk := some 29) (bm 18 13823) (bm 18 14327) (bm 18 15863) rfl rfl rfl rfl rfl rfl (by kernel_rfl) (by decide) (by decide) (by decide) (fun K hK => ?_) (fun K hK => ?_) (fun K hK => ?_)
    ·
      refine goes_ Tryd.func33 (by kernel_rfl) rfl #[.slice A2 up.length C2] (by rfl) rfl rfl (by (try simp only [List.map_toArray, List.map_cons, List.map_nil]); first | done | rfl) ?_
      with_reducible refine (ends_okR hF.r HCX.out.ck hF.t).mono ?_
      rintro q wn ⟨Ae, ce, rfl, hre, hb⟩
      refine ⟨_, rfl, ?_⟩
      rw [HCX.out.ends, Mo.ints_len] at hre
      have hF2 := hF.set 0 hb ⟨Kd.int .i64, 3, .slice Ae cx.ends.length ce, ints cx.ends⟩ hre
      refine hK.out _ _ (s6 hF2.x) (fun hHeld => ?_)
      rw [HCX.out.ends, Mo.ints_len]
      exact J11001 (.slice Ae cx.ends.length ce, s2, s3, s4, s5) wn hF2
    ·
      refine Kd.R_make_step (Kd.raw 2) (w0 := wb) wb.heap.size 114 (by rfl) rfl 71 (.tmp 26) (.tmp 26) rfl pr rfl rfl und_hs (.agg #[.int .i64 0, .int .i64 0]) 16 inf_h rfl (by decide) (by decide) [.int .i64 0, .int .i64 0] (ok := fun _ => True) (okp := fun _ => False) (by exact mz2 _ _) (fun _ h => h.elim) trivial HN9.out.1 HN9.out.2 (Below.refl _ _) (Nat.le_refl _) ?_
      intro vn wn hr hb hg hat
      obtain ⟨An, cn, en⟩ := Kd.R_slice hr
      subst en
      clear hg hat
      rw [List.length_replicate, show (pr).toNat = cx.prod by have := HCX.out.prod; omega] at hr
      have hF2 := hF.set 2 hb ⟨(Kd.raw 2), 114, .slice An cx.prod cn, List.replicate cx.prod [.int .i64 0, .int .i64 0]⟩ hr
      refine hK.out _ _ (s6 hF2.x) (fun hHeld => ?_)
      rw [List.length_replicate, show (pr).toNat = cx.prod by have := HCX.out.prod; omega]
      exact J01101 (s1, s2, .slice An cx.prod cn, s4, s5) wn hF2
    ·
      refine Kd.R_make_step (Kd.int .i64) (w0 := wb) wb.heap.size 3 (by rfl) rfl 37 (.tmp 28) (.tmp 28) rfl (up.length : Int) rfl rfl und_is (.int .i64 0) 8 inf_i rfl (by decide) (by decide) (0 : Int) (ok := fun _ => True) (okp := fun _ => False) (by exact rfl) (fun _ h => h.elim) trivial HN11.out.1 HN11.out.2 (Below.refl _ _) (Nat.le_refl _) ?_
      intro vn wn hr hb hg hat
      obtain ⟨An, cn, en⟩ := Kd.R_slice hr
      subst en
      clear hg hat
      rw [List.length_replicate, Int.toNat_natCast] at hr
      have hF2 := hF.set 3 hb ⟨(Kd.int .i64), 3, .slice An up.length cn, List.replicate up.length (0 : Int)⟩ hr
      refine hK.out _ _ (s6 hF2.x) (fun hHeld => ?_)
      rw [List.length_replicate, Int.toNat_natCast]
      exact J01011 (s1, s2, s3, .slice An up.length cn, s5) wn hF2
  refine join_ (σ := Value × Value × Value × Value × Value) 7 (bm 18 7671) (fun s => [(24, s.2.1), (29, s.2.2.2.1)]) (fun s wb => NR w6 w.heap.size #[.int .i64 v, .int .i64 wd, .int .i64 cp, .int .i64 pr, .int .u64 sa, .slice A2 up.length C2] A2 C2 up (rwsN cx up.length false true false true false s) wb) (fun s wb hF => ?_) (fun J01010 => ?_)
  ·
    obtain ⟨s1, s2, s3, s4, s5⟩ := s
    refine norm_ (a' := ?_) ?_ ?_
    rotate_left
    · simp only [putAll, Act.put, List.setIfInBounds_toArray, List.set_cons_zero, List.set_cons_succ, i64_w, i32_w]
      rfl
    refine three_ (i := 3) (j := 9) (k := 13) (Ni := some 21) (Nj := some 27) (Nk := some 31) (bm 18 7679) (bm 18 8183) (bm 18 15863) rfl rfl rfl rfl rfl rfl (by kernel_rfl) (by decide) (by decide) (by decide) (fun K hK => ?_) (fun K hK => ?_) (fun K hK => ?_)
    ·
      refine goes_ Tryd.func33 (by kernel_rfl) rfl #[.slice A2 up.length C2] (by rfl) rfl rfl (by (try simp only [List.map_toArray, List.map_cons, List.map_nil]); first | done | rfl) ?_
      with_reducible refine (ends_okR hF.r HCX.out.ck hF.t).mono ?_
      rintro q wn ⟨Ae, ce, rfl, hre, hb⟩
      refine ⟨_, rfl, ?_⟩
      rw [HCX.out.ends, Mo.ints_len] at hre
      have hF2 := hF.set 0 hb ⟨Kd.int .i64, 3, .slice Ae cx.ends.length ce, ints cx.ends⟩ hre
      refine hK.out _ _ (s6 hF2.x) (fun hHeld => ?_)
      rw [HCX.out.ends, Mo.ints_len]
      exact J11010 (.slice Ae cx.ends.length ce, s2, s3, s4, s5) wn hF2
    ·
      refine Kd.R_make_step (Kd.raw 2) (w0 := wb) wb.heap.size 114 (by rfl) rfl 71 (.tmp 26) (.tmp 26) rfl pr rfl rfl und_hs (.agg #[.int .i64 0, .int .i64 0]) 16 inf_h rfl (by decide) (by decide) [.int .i64 0, .int .i64 0] (ok := fun _ => True) (okp := fun _ => False) (by exact mz2 _ _) (fun _ h => h.elim) trivial HN9.out.1 HN9.out.2 (Below.refl _ _) (Nat.le_refl _) ?_
      intro vn wn hr hb hg hat
      obtain ⟨An, cn, en⟩ := Kd.R_slice hr
      subst en
      clear hg hat
      rw [List.length_replicate, show (pr).toNat = cx.prod by have := HCX.out.prod; omega] at hr
      have hF2 := hF.set 2 hb ⟨(Kd.raw 2), 114, .slice An cx.prod cn, List.replicate cx.prod [.int .i64 0, .int .i64 0]⟩ hr
      refine hK.out _ _ (s6 hF2.x) (fun hHeld => ?_)
      rw [List.length_replicate, show (pr).toNat = cx.prod by have := HCX.out.prod; omega]
      exact J01110 (s1, s2, .slice An cx.prod cn, s4, s5) wn hF2
    ·
      refine Kd.R_make_step (Kd.int .i64) (w0 := wb) wb.heap.size 3 (by rfl) rfl 37 (.tmp 30) (.tmp 30) rfl (up.length : Int) rfl rfl und_is (.int .i64 0) 8 inf_i rfl (by decide) (by decide) (0 : Int) (ok := fun _ => True) (okp := fun _ => False) (by exact rfl) (fun _ h => h.elim) trivial HN13.out.1 HN13.out.2 (Below.refl _ _) (Nat.le_refl _) ?_
      intro vn wn hr hb hg hat
      obtain ⟨An, cn, en⟩ := Kd.R_slice hr
      subst en
      clear hg hat
      rw [List.length_replicate, Int.toNat_natCast] at hr
      have hF2 := hF.set 4 hb ⟨(Kd.int .i64), 3, .slice An up.length cn, List.replicate up.length (0 : Int)⟩ hr
      refine hK.out _ _ (s6 hF2.x) (fun hHeld => ?_)
      rw [List.length_replicate, Int.toNat_natCast]
      exact J01011 (s1, s2, s3, s4, .slice An up.length cn) wn hF2
  refine join_ (σ := Value × Value × Value × Value × Value) 7 (bm 18 6135) (fun s => [(24, s.2.1), (27, s.2.2.1)]) (fun s wb => NR w6 w.heap.size #[.int .i64 v, .int .i64 wd, .int .i64 cp, .int .i64 pr, .int .u64 sa, .slice A2 up.length C2] A2 C2 up (rwsN cx up.length false true true false false s) wb) (fun s wb hF => ?_) (fun J01100 => ?_)
  ·
    obtain ⟨s1, s2, s3, s4, s5⟩ := s
    refine norm_ (a' := ?_) ?_ ?_
    rotate_left
    · simp only [putAll, Act.put, List.setIfInBounds_toArray, List.set_cons_zero, List.set_cons_succ, i64_w, i32_w]
      rfl
    refine three_ (i := 3) (j := 11) (k := 13) (Ni := some 21) (Nj := some 29) (Nk := some 31) (bm 18 6143) (bm 18 8183) (bm 18 14327) rfl rfl rfl rfl rfl rfl (by kernel_rfl) (by decide) (by decide) (by decide) (fun K hK => ?_) (fun K hK => ?_) (fun K hK => ?_)
    ·
      refine goes_ Tryd.func33 (by kernel_rfl) rfl #[.slice A2 up.length C2] (by rfl) rfl rfl (by (try simp only [List.map_toArray, List.map_cons, List.map_nil]); first | done | rfl) ?_
      with_reducible refine (ends_okR hF.r HCX.out.ck hF.t).mono ?_
      rintro q wn ⟨Ae, ce, rfl, hre, hb⟩
      refine ⟨_, rfl, ?_⟩
      rw [HCX.out.ends, Mo.ints_len] at hre
      have hF2 := hF.set 0 hb ⟨Kd.int .i64, 3, .slice Ae cx.ends.length ce, ints cx.ends⟩ hre
      refine hK.out _ _ (s6 hF2.x) (fun hHeld => ?_)
      rw [HCX.out.ends, Mo.ints_len]
      exact J11100 (.slice Ae cx.ends.length ce, s2, s3, s4, s5) wn hF2
    ·
      refine Kd.R_make_step (Kd.int .i64) (w0 := wb) wb.heap.size 3 (by rfl) rfl 37 (.tmp 28) (.tmp 28) rfl (up.length : Int) rfl rfl und_is (.int .i64 0) 8 inf_i rfl (by decide) (by decide) (0 : Int) (ok := fun _ => True) (okp := fun _ => False) (by exact rfl) (fun _ h => h.elim) trivial HN11.out.1 HN11.out.2 (Below.refl _ _) (Nat.le_refl _) ?_
      intro vn wn hr hb hg hat
      obtain ⟨An, cn, en⟩ := Kd.R_slice hr
      subst en
      clear hg hat
      rw [List.length_replicate, Int.toNat_natCast] at hr
      have hF2 := hF.set 3 hb ⟨(Kd.int .i64), 3, .slice An up.length cn, List.replicate up.length (0 : Int)⟩ hr
      refine hK.out _ _ (s6 hF2.x) (fun hHeld => ?_)
      rw [List.length_replicate, Int.toNat_natCast]
      exact J01110 (s1, s2, s3, .slice An up.length cn, s5) wn hF2
    ·
      refine Kd.R_make_step (Kd.int .i64) (w0 := wb) wb.heap.size 3 (by rfl) rfl 37 (.tmp 30) (.tmp 30) rfl (up.length : Int) rfl rfl und_is (.int .i64 0) 8 inf_i rfl (by decide) (by decide) (0 : Int) (ok := fun _ => True) (okp := fun _ => False) (by exact rfl) (fun _ h => h.elim) trivial HN13.out.1 HN13.out.2 (Below.refl _ _) (Nat.le_refl _) ?_
      intro vn wn hr hb hg hat
      obtain ⟨An, cn, en⟩ := Kd.R_slice hr
      subst en
      clear hg hat
      rw [List.length_replicate, Int.toNat_natCast] at hr
      have hF2 := hF.set 4 hb ⟨(Kd.int .i64), 3, .slice An up.length cn, List.replicate up.length (0 : Int)⟩ hr
      refine hK.out _ _ (s6 hF2.x) (fun hHeld => ?_)
      rw [List.length_replicate, Int.toNat_natCast]
      exact J01101 (s1, s2, s3, s4, .slice An up.length cn) wn hF2
  refine join_ (σ := Value × Value × Value × Value × Value) 7 (bm 18 13759) (fun s => [(21, s.1), (31, s.2.2.2.2)]) (fun s wb => NR w6 w.heap.size #[.int .i64 v, .int .i64 wd, .int .i64 cp, .int .i64 pr, .int .u64 sa, .slice A2 up.length C2] A2 C2 up (rwsN cx up.length true false false false true s) wb) (fun s wb hF => ?_) (fun J10001 => ?_)
  ·
    obtain ⟨s1, s2, s3, s4, s5⟩ := s
    refine norm_ (a' := ?_) ?_ ?_
    rotate_left
    · simp only [putAll, Act.put, List.setIfInBounds_toArray, List.set_cons_zero, List.set_cons_succ, i64_w, i32_w]
      rfl
    refine three_ (i := 6) (j := 9) (k := 11) (Ni := some 24) (Nj := some 27) (Nk := some 29) (bm 18 13823) (bm 18 14271) (bm 18 15807) rfl rfl rfl rfl rfl rfl (by kernel_rfl) (by decide) (by decide) (by decide) (fun K hK => ?_) (fun K hK => ?_) (fun K hK => ?_)
    ·
      refine Kd.R_make_step (Kd.int .i64) (w0 := wb) wb.heap.size 3 (by rfl) rfl 37 (.tmp 23) (.tmp 23) rfl cp rfl rfl und_is (.int .i64 0) 8 inf_i rfl (by decide) (by decide) (0 : Int) (ok := fun _ => True) (okp := fun _ => False) (by exact rfl) (fun _ h => h.elim) trivial HN6.out.1 HN6.out.2 (Below.refl _ _) (Nat.le_refl _) ?_
      intro vn wn hr hb hg hat
      obtain ⟨An, cn, en⟩ := Kd.R_slice hr
      subst en
      clear hg hat
      rw [List.length_replicate, show (cp).toNat = cx.cap.toNat by rw [HCX.out.cap]] at hr
      have hF2 := hF.set 1 hb ⟨(Kd.int .i64), 3, .slice An cx.cap.toNat cn, List.replicate cx.cap.toNat (0 : Int)⟩ hr
      refine hK.out _ _ (s6 hF2.x) (fun hHeld => ?_)
      rw [List.length_replicate, show (cp).toNat = cx.cap.toNat by rw [HCX.out.cap]]
      exact J11001 (s1, .slice An cx.cap.toNat cn, s3, s4, s5) wn hF2
    ·
      refine Kd.R_make_step (Kd.raw 2) (w0 := wb) wb.heap.size 114 (by rfl) rfl 71 (.tmp 26) (.tmp 26) rfl pr rfl rfl und_hs (.agg #[.int .i64 0, .int .i64 0]) 16 inf_h rfl (by decide) (by decide) [.int .i64 0, .int .i64 0] (ok := fun _ => True) (okp := fun _ => False) (by exact mz2 _ _) (fun _ h => h.elim) trivial HN9.out.1 HN9.out.2 (Below.refl _ _) (Nat.le_refl _) ?_
      intro vn wn hr hb hg hat
      obtain ⟨An, cn, en⟩ := Kd.R_slice hr
      subst en
      clear hg hat
      rw [List.length_replicate, show (pr).toNat = cx.prod by have := HCX.out.prod; omega] at hr
      have hF2 := hF.set 2 hb ⟨(Kd.raw 2), 114, .slice An cx.prod cn, List.replicate cx.prod [.int .i64 0, .int .i64 0]⟩ hr
      refine hK.out _ _ (s6 hF2.x) (fun hHeld => ?_)
      rw [List.length_replicate, show (pr).toNat = cx.prod by have := HCX.out.prod; omega]
      exact J10101 (s1, s2, .slice An cx.prod cn, s4, s5) wn hF2
    ·
      refine Kd.R_make_step (Kd.int .i64) (w0 := wb) wb.heap.size 3 (by rfl) rfl 37 (.tmp 28) (.tmp 28) rfl (up.length : Int) rfl rfl und_is (.int .i64 0) 8 inf_i rfl (by decide) (by decide) (0 : Int) (ok := fun _ => True) (okp := fun _ => False) (by exact rfl) (fun _ h => h.elim) trivial HN11.out.1 HN11.out.2 (Below.refl _ _) (Nat.le_refl _) ?_
      intro vn wn hr hb hg hat
      obtain ⟨An, cn, en⟩ := Kd.R_slice hr
      subst en
      clear hg hat
      rw [List.length_replicate, Int.toNat_natCast] at hr
      have hF2 := hF.set 3 hb ⟨(Kd.int .i64), 3, .slice An up.length cn, List.replicate up.length (0 : Int)⟩ hr
      refine hK.out _ _ (s6 hF2.x) (fun hHeld => ?_)
      rw [List.length_replicate, Int.toNat_natCast]
      exact J10011 (s1, s2, s3, .slice An up.length cn, s5) wn hF2
  refine join_ (σ := Value × Value × Value × Value × Value) 7 (bm 18 7615) (fun s => [(21, s.1), (29, s.2.2.2.1)]) (fun s wb => NR w6 w.heap.size #[.int .i64 v, .int .i64 wd, .int .i64 cp, .int .i64 pr, .int .u64 sa, .slice A2 up.length C2] A2 C2 up (rwsN cx up.length true false false true false s) wb) (fun s wb hF => ?_) (fun J10010 => ?_)
  ·
    obtain ⟨s1, s2, s3, s4, s5⟩ := s
    refine norm_ (a' := ?_) ?_ ?_
    rotate_left
    · simp only [putAll, Act.put, List.setIfInBounds_toArray, List.set_cons_zero, List.set_cons_succ, i64_w, i32_w]
      rfl
    refine three_ (i := 6) (j := 9) (k := 13) (Ni := some 24) (Nj := some 27) (Nk := some 31) (bm 18 7679) (bm 18 8127) (bm 18 15807) rfl rfl rfl rfl rfl rfl (by kernel_rfl) (by decide) (by decide) (by decide) (fun K hK => ?_) (fun K hK => ?_) (fun K hK => ?_)
    ·
      refine Kd.R_make_step (Kd.int .i64) (w0 := wb) wb.heap.size 3 (by rfl) rfl 37 (.tmp 23) (.tmp 23) rfl cp rfl rfl und_is (.int .i64 0) 8 inf_i rfl (by decide) (by decide) (0 : Int) (ok := fun _ => True) (okp := fun _ => False) (by exact rfl) (fun _ h => h.elim) trivial HN6.out.1 HN6.out.2 (Below.refl _ _) (Nat.le_refl _) ?_
      intro vn wn hr hb hg hat
      obtain ⟨An, cn, en⟩ := Kd.R_slice hr
      subst en
      clear hg hat
      rw [List.length_replicate, show (cp).toNat = cx.cap.toNat by rw [HCX.out.cap]] at hr
      have hF2 := hF.set 1 hb ⟨(Kd.int .i64), 3, .slice An cx.cap.toNat cn, List.replicate cx.cap.toNat (0 : Int)⟩ hr
      refine hK.out _ _ (s6 hF2.x) (fun hHeld => ?_)
      rw [List.length_replicate, show (cp).toNat = cx.cap.toNat by rw [HCX.out.cap]]
      exact J11010 (s1, .slice An cx.cap.toNat cn, s3, s4, s5) wn hF2
    ·
      refine Kd.R_make_step (Kd.raw 2) (w0 := wb) wb.heap.size 114 (by rfl) rfl 71 (.tmp 26) (.tmp 26) rfl pr rfl rfl und_hs (.agg #[.int .i64 0, .int .i64 0]) 16 inf_h rfl (by decide) (by decide) [.int .i64 0, .int .i64 0] (ok := fun _ => True) (okp := fun _ => False) (by exact mz2 _ _) (fun _ h => h.elim) trivial HN9.out.1 HN9.out.2 (Below.refl _ _) (Nat.le_refl _) ?_
      intro vn wn hr hb hg hat
      obtain ⟨An, cn, en⟩ := Kd.R_slice hr
      subst en
      clear hg hat
      rw [List.length_replicate, show (pr).toNat = cx.prod by have := HCX.out.prod; omega] at hr
      have hF2 := hF.set 2 hb ⟨(Kd.raw 2), 114, .slice An cx.prod cn, List.replicate cx.prod [.int .i64 0, .int .i64 0]⟩ hr
      refine hK.out _ _ (s6 hF2.x) (fun hHeld => ?_)
      rw [List.length_replicate, show (pr).toNat = cx.prod by have := HCX.out.prod; omega]
      exact J10110 (s1, s2, .slice An cx.prod cn, s4, s5) wn hF2
    ·
      refine Kd.R_make_step (Kd.int .i64) (w0 := wb) wb.heap.size 3 (by rfl) rfl 37 (.tmp 30) (.tmp 30) rfl (up.length : Int) rfl rfl und_is (.int .i64 0) 8 inf_i rfl (by decide) (by decide) (0 : Int) (ok := fun _ => True) (okp := fun _ => False) (by exact rfl) (fun _ h => h.elim) trivial HN13.out.1 HN13.out.2 (Below.refl _ _) (Nat.le_refl _) ?_
      intro vn wn hr hb hg hat
      obtain ⟨An, cn, en⟩ := Kd.R_slice hr
      subst en
      clear hg hat
      rw [List.length_replicate, Int.toNat_natCast] at hr
      have hF2 := hF.set 4 hb ⟨(Kd.int .i64), 3, .slice An up.length cn, List.replicate up.length (0 : Int)⟩ hr
      refine hK.out _ _ (s6 hF2.x) (fun hHeld => ?_)
      rw [List.length_replicate, Int.toNat_natCast]
      exact J10011 (s1, s2, s3, s4, .slice An up.length cn) wn hF2
  refine join_ (σ := Value × Value × Value × Value × Value) 7 (bm 18 6079) (fun s => [(21, s.1), (27, s.2.2.1)]) (fun s wb => NR w6 w.heap.size #[.int .i64 v, .int .i64 wd, .int .i64 cp, .int .i64 pr, .int .u64 sa, .slice A2 up.length C2] A2 C2 up (rwsN cx up.length true false true false false s) wb) (fun s wb hF => ?_) (fun J10100 => ?_)
  ·
    obtain ⟨s1, s2, s3, s4, s5⟩ := s
    refine norm_ (a' := ?_) ?_ ?_
    rotate_left
    · simp only [putAll, Act.put, List.setIfInBounds_toArray, List.set_cons_zero, List.set_cons_succ, i64_w, i32_w]
      rfl
    refine three_ (i := 6) (j := 11) (k := 13) (Ni := some 24) (Nj := some 29) (Nk := some 31) (bm 18 6143) (bm 18 8127) (bm 18 14271) rfl rfl rfl rfl rfl rfl (by kernel_rfl) (by decide) (by decide) (by decide) (fun K hK => ?_) (fun K hK => ?_) (fun K hK => ?_)
    ·
      refine Kd.R_make_step (Kd.int .i64) (w0 := wb) wb.heap.size 3 (by rfl) rfl 37 (.tmp 23) (.tmp 23) rfl cp rfl rfl und_is (.int .i64 0) 8 inf_i rfl (by decide) (by decide) (0 : Int) (ok := fun _ => True) (okp := fun _ => False) (by exact rfl) (fun _ h => h.elim) trivial HN6.out.1 HN6.out.2 (Below.refl _ _) (Nat.le_refl _) ?_
      intro vn wn hr hb hg hat
      obtain ⟨An, cn, en⟩ := Kd.R_slice hr
      subst en
      clear hg hat
      rw [List.length_replicate, show (cp).toNat = cx.cap.toNat by rw [HCX.out.cap]] at hr
      have hF2 := hF.set 1 hb ⟨(Kd.int .i64), 3, .slice An cx.cap.toNat cn, List.replicate cx.cap.toNat (0 : Int)⟩ hr
      refine hK.out _ _ (s6 hF2.x) (fun hHeld => ?_)
      rw [List.length_replicate, show (cp).toNat = cx.cap.toNat by rw [HCX.out.cap]]
      exact J11100 (s1, .slice An cx.cap.toNat cn, s3, s4, s5) wn hF2
    ·
      refine Kd.R_make_step (Kd.int .i64) (w0 := wb) wb.heap.size 3 (by rfl) rfl 37 (.tmp 28) (.tmp 28) rfl (up.length : Int) rfl rfl und_is (.int .i64 0) 8 inf_i rfl (by decide) (by decide) (0 : Int) (ok := fun _ => True) (okp := fun _ => False) (by exact rfl) (fun _ h => h.elim) trivial HN11.out.1 HN11.out.2 (Below.refl _ _) (Nat.le_refl _) ?_
      intro vn wn hr hb hg hat
      obtain ⟨An, cn, en⟩ := Kd.R_slice hr
      subst en
      clear hg hat
      rw [List.length_replicate, Int.toNat_natCast] at hr
      have hF2 := hF.set 3 hb ⟨(Kd.int .i64), 3, .slice An up.length cn, List.replicate up.length (0 : Int)⟩ hr
      refine hK.out _ _ (s6 hF2.x) (fun hHeld => ?_)
      rw [List.length_replicate, Int.toNat_natCast]
      exact J10110 (s1, s2, s3, .slice An up.length cn, s5) wn hF2
    ·
      refine Kd.R_make_step (Kd.int .i64) (w0 := wb) wb.heap.size 3 (by rfl) rfl 37 (.tmp 30) (.tmp 30) rfl (up.length : Int) rfl rfl und_is (.int .i64 0) 8 inf_i rfl (by decide) (by decide) (0 : Int) (ok := fun _ => True) (okp := fun _ => False) (by exact rfl) (fun _ h => h.elim) trivial HN13.out.1 HN13.out.2 (Below.refl _ _) (Nat.le_refl _) ?_
      intro vn wn hr hb hg hat
      obtain ⟨An, cn, en⟩ := Kd.R_slice hr
      subst en
      clear hg hat
      rw [List.length_replicate, Int.toNat_natCast] at hr
      have hF2 := hF.set 4 hb ⟨(Kd.int .i64), 3, .slice An up.length cn, List.replicate up.length (0 : Int)⟩ hr
      refine hK.out _ _ (s6 hF2.x) (fun hHeld => ?_)
      rw [List.length_replicate, Int.toNat_natCast]
      exact J10101 (s1, s2, s3, s4, .slice An up.length cn) wn hF2
  refine join_ (σ := Value × Value × Value × Value × Value) 7 (bm 18 5631) (fun s => [(21, s.1), (24, s.2.1)]) (fun s wb => NR w6 w.heap.size #[.int .i64 v, .int .i64 wd, .int .i64 cp, .int .i64 pr, .int .u64 sa, .slice A2 up.length C2] A2 C2 up (rwsN cx up.length true true false false false s) wb) (fun s wb hF => ?_) (fun J11000 => ?_)
  ·
    obtain ⟨s1, s2, s3, s4, s5⟩ := s
    refine norm_ (a' := ?_) ?_ ?_
    rotate_left
    · simp only [putAll, Act.put, List.setIfInBounds_toArray, List.set_cons_zero, List.set_cons_succ, i64_w, i32_w]
      rfl
    refine three_ (i := 9) (j := 11) (k := 13) (Ni := some 27) (Nj := some 29) (Nk := some 31) (bm 18 6143) (bm 18 7679) (bm 18 13823) rfl rfl rfl rfl rfl rfl (by kernel_rfl) (by decide) (by decide) (by decide) (fun K hK => ?_) (fun K hK => ?_) (fun K hK => ?_)
    ·
      refine Kd.R_make_step (Kd.raw 2) (w0 := wb) wb.heap.size 114 (by rfl) rfl 71 (.tmp 26) (.tmp 26) rfl pr rfl rfl und_hs (.agg #[.int .i64 0, .int .i64 0]) 16 inf_h rfl (by decide) (by decide) [.int .i64 0, .int .i64 0] (ok := fun _ => True) (okp := fun _ => False) (by exact mz2 _ _) (fun _ h => h.elim) trivial HN9.out.1 HN9.out.2 (Below.refl _ _) (Nat.le_refl _) ?_
      intro vn wn hr hb hg hat
      obtain ⟨An, cn, en⟩ := Kd.R_slice hr
      subst en
      clear hg hat
      rw [List.length_replicate, show (pr).toNat = cx.prod by have := HCX.out.prod; omega] at hr
      have hF2 := hF.set 2 hb ⟨(Kd.raw 2), 114, .slice An cx.prod cn, List.replicate cx.prod [.int .i64 0, .int .i64 0]⟩ hr
      refine hK.out _ _ (s6 hF2.x) (fun hHeld => ?_)
      rw [List.length_replicate, show (pr).toNat = cx.prod by have := HCX.out.prod; omega]
      exact J11100 (s1, s2, .slice An cx.prod cn, s4, s5) wn hF2
    ·
      refine Kd.R_make_step (Kd.int .i64) (w0 := wb) wb.heap.size 3 (by rfl) rfl 37 (.tmp 28) (.tmp 28) rfl (up.length : Int) rfl rfl und_is (.int .i64 0) 8 inf_i rfl (by decide) (by decide) (0 : Int) (ok := fun _ => True) (okp := fun _ => False) (by exact rfl) (fun _ h => h.elim) trivial HN11.out.1 HN11.out.2 (Below.refl _ _) (Nat.le_refl _) ?_
      intro vn wn hr hb hg hat
      obtain ⟨An, cn, en⟩ := Kd.R_slice hr
      subst en
      clear hg hat
      rw [List.length_replicate, Int.toNat_natCast] at hr
      have hF2 := hF.set 3 hb ⟨(Kd.int .i64), 3, .slice An up.length cn, List.replicate up.length (0 : Int)⟩ hr
      refine hK.out _ _ (s6 hF2.x) (fun hHeld => ?_)
      rw [List.length_replicate, Int.toNat_natCast]
      exact J11010 (s1, s2, s3, .slice An up.length cn, s5) wn hF2
    ·
      refine Kd.R_make_step (Kd.int .i64) (w0 := wb) wb.heap.size 3 (by rfl) rfl 37 (.tmp 30) (.tmp 30) rfl (up.length : Int) rfl rfl und_is (.int .i64 0) 8 inf_i rfl (by decide) (by decide) (0 : Int) (ok := fun _ => True) (okp := fun _ => False) (by exact rfl) (fun _ h => h.elim) trivial HN13.out.1 HN13.out.2 (Below.refl _ _) (Nat.le_refl _) ?_
      intro vn wn hr hb hg hat
      obtain ⟨An, cn, en⟩ := Kd.R_slice hr
      subst en
      clear hg hat
      rw [List.length_replicate, Int.toNat_natCast] at hr
      have hF2 := hF.set 4 hb ⟨(Kd.int .i64), 3, .slice An up.length cn, List.replicate up.length (0 : Int)⟩ hr
      refine hK.out _ _ (s6 hF2.x) (fun hHeld => ?_)
      rw [List.length_replicate, Int.toNat_natCast]
      exact J11001 (s1, s2, s3, s4, .slice An up.length cn) wn hF2
  refine join_ (σ := Value × Value × Value × Value × Value) 8 (bm 18 13751) (fun s => [(31, s.2.2.2.2)]) (fun s wb => NR w6 w.heap.size #[.int .i64 v, .int .i64 wd, .int .i64 cp, .int .i64 pr, .int .u64 sa, .slice A2 up.length C2] A2 C2 up (rwsN cx up.length false false false false true s) wb) (fun s wb hF => ?_) (fun J00001 => ?_)
  ·
    obtain ⟨s1, s2, s3, s4, s5⟩ := s
    refine norm_ (a' := ?_) ?_ ?_
    rotate_left
    · simp only [putAll, Act.put, List.setIfInBounds_toArray, List.set_cons_zero, List.set_cons_succ, i64_w, i32_w]
      rfl
    refine four_ (i := 3) (j := 6) (k := 9) (m := 11) (Ni := some 21) (Nj := some 24) (Nk := some 27) (Nm := some 29) (bm 18 13759) (bm 18 13815) (bm 18 14263) (bm 18 15799) rfl rfl rfl rfl rfl rfl rfl rfl (by kernel_rfl) (by decide) (by decide) (by decide) (by decide) (fun K hK => ?_) (fun K hK => ?_) (fun K hK => ?_) (fun K hK => ?_)
    ·
      refine goes_ Tryd.func33 (by kernel_rfl) rfl #[.slice A2 up.length C2] (by rfl) rfl rfl (by (try simp only [List.map_toArray, List.map_cons, List.map_nil]); first | done | rfl) ?_
      with_reducible refine (ends_okR hF.r HCX.out.ck hF.t).mono ?_
      rintro q wn ⟨Ae, ce, rfl, hre, hb⟩
      refine ⟨_, rfl, ?_⟩
      rw [HCX.out.ends, Mo.ints_len] at hre
      have hF2 := hF.set 0 hb ⟨Kd.int .i64, 3, .slice Ae cx.ends.length ce, ints cx.ends⟩ hre
      refine hK.out _ _ (s6 hF2.x) (fun hHeld => ?_)
      rw [HCX.out.ends, Mo.ints_len]
      exact J10001 (.slice Ae cx.ends.length ce, s2, s3, s4, s5) wn hF2
    ·
      refine Kd.R_make_step (Kd.int .i64) (w0 := wb) wb.heap.size 3 (by rfl) rfl 37 (.tmp 23) (.tmp 23) rfl cp rfl rfl und_is (.int .i64 0) 8 inf_i rfl (by decide) (by decide) (0 : Int) (ok := fun _ => True) (okp := fun _ => False) (by exact rfl) (fun _ h => h.elim) trivial HN6.out.1 HN6.out.2 (Below.refl _ _) (Nat.le_refl _) ?_
      intro vn wn hr hb hg hat
      obtain ⟨An, cn, en⟩ := Kd.R_slice hr
      subst en
      clear hg hat
      rw [List.length_replicate, show (cp).toNat = cx.cap.toNat by rw [HCX.out.cap]] at hr
      have hF2 := hF.set 1 hb ⟨(Kd.int .i64), 3, .slice An cx.cap.toNat cn, List.replicate cx.cap.toNat (0 : Int)⟩ hr
      refine hK.out _ _ (s6 hF2.x) (fun hHeld => ?_)
      rw [List.length_replicate, show (cp).toNat = cx.cap.toNat by rw [HCX.out.cap]]
      exact J01001 (s1, .slice An cx.cap.toNat cn, s3, s4, s5) wn hF2
    ·
      refine Kd.R_make_step (Kd.raw 2) (w0 := wb) wb.heap.size 114 (by rfl) rfl 71 (.tmp 26) (.tmp 26) rfl pr rfl rfl und_hs (.agg #[.int .i64 0, .int .i64 0]) 16 inf_h rfl (by decide) (by decide) [.int .i64 0, .int .i64 0] (ok := fun _ => True) (okp := fun _ => False) (by exact mz2 _ _) (fun _ h => h.elim) trivial HN9.out.1 HN9.out.2 (Below.refl _ _) (Nat.le_refl _) ?_
      intro vn wn hr hb hg hat
      obtain ⟨An, cn, en⟩ := Kd.R_slice hr
      subst en
      clear hg hat
      rw [List.length_replicate, show (pr).toNat = cx.prod by have := HCX.out.prod; omega] at hr
      have hF2 := hF.set 2 hb ⟨(Kd.raw 2), 114, .slice An cx.prod cn, List.replicate cx.prod [.int .i64 0, .int .i64 0]⟩ hr
      refine hK.out _ _ (s6 hF2.x) (fun hHeld => ?_)
      rw [List.length_replicate, show (pr).toNat = cx.prod by have := HCX.out.prod; omega]
      exact J00101 (s1, s2, .slice An cx.prod cn, s4, s5) wn hF2
    ·
      refine Kd.R_make_step (Kd.int .i64) (w0 := wb) wb.heap.size 3 (by rfl) rfl 37 (.tmp 28) (.tmp 28) rfl (up.length : Int) rfl rfl und_is (.int .i64 0) 8 inf_i rfl (by decide) (by decide) (0 : Int) (ok := fun _ => True) (okp := fun _ => False) (by exact rfl) (fun _ h => h.elim) trivial HN11.out.1 HN11.out.2 (Below.refl _ _) (Nat.le_refl _) ?_
      intro vn wn hr hb hg hat
      obtain ⟨An, cn, en⟩ := Kd.R_slice hr
      subst en
      clear hg hat
      rw [List.length_replicate, Int.toNat_natCast] at hr
      have hF2 := hF.set 3 hb ⟨(Kd.int .i64), 3, .slice An up.length cn, List.replicate up.length (0 : Int)⟩ hr
      refine hK.out _ _ (s6 hF2.x) (fun hHeld => ?_)
      rw [List.length_replicate, Int.toNat_natCast]
      exact J00011 (s1, s2, s3, .slice An up.length cn, s5) wn hF2
  refine join_ (σ := Value × Value × Value × Value × Value) 8 (bm 18 7607) (fun s => [(29, s.2.2.2.1)]) (fun s wb => NR w6 w.heap.size #[.int .i64 v, .int .i64 wd, .int .i64 cp, .int .i64 pr, .int .u64 sa, .slice A2 up.length C2] A2 C2 up (rwsN cx up.length false false false true false s) wb) (fun s wb hF => ?_) (fun J00010 => ?_)
  ·
    obtain ⟨s1, s2, s3, s4, s5⟩ := s
    refine norm_ (a' := ?_) ?_ ?_
    rotate_left
    · simp only [putAll, Act.put, List.setIfInBounds_toArray, List.set_cons_zero, List.set_cons_succ, i64_w, i32_w]
      rfl
    refine four_ (i := 3) (j := 6) (k := 9) (m := 13) (Ni := some 21) (Nj := some 24) (Nk := some 27) (Nm := some 31) (bm 18 7615) (bm 18 7671) (bm 18 8119) (bm 18 15799) rfl rfl rfl rfl rfl rfl rfl rfl (by kernel_rfl) (by decide) (by decide) (by decide) (by decide) (fun K hK => ?_) (fun K hK => ?_) (fun K hK => ?_) (fun K hK => ?_)
    ·
      refine goes_ Tryd.func33 (by kernel_rfl) rfl #[.slice A2 up.length C2] (by rfl) rfl rfl (by (try simp only [List.map_toArray, List.map_cons, List.map_nil]); first | done | rfl) ?_
      with_reducible refine (ends_okR hF.r HCX.out.ck hF.t).mono ?_
      rintro q wn ⟨Ae, ce, rfl, hre, hb⟩
      refine ⟨_, rfl, ?_⟩
      rw [HCX.out.ends, Mo.ints_len] at hre
      have hF2 := hF.set 0 hb ⟨Kd.int .i64, 3, .slice Ae cx.ends.length ce, ints cx.ends⟩ hre
      refine hK.out _ _ (s6 hF2.x) (fun hHeld => ?_)
      rw [HCX.out.ends, Mo.ints_len]
      exact J10010 (.slice Ae cx.ends.length ce, s2, s3, s4, s5) wn hF2
    ·
      refine Kd.R_make_step (Kd.int .i64) (w0 := wb) wb.heap.size 3 (by rfl) rfl 37 (.tmp 23) (.tmp 23) rfl cp rfl rfl und_is (.int .i64 0) 8 inf_i rfl (by decide) (by decide) (0 : Int) (ok := fun _ => True) (okp := fun _ => False) (by exact rfl) (fun _ h => h.elim) trivial HN6.out.1 HN6.out.2 (Below.refl _ _) (Nat.le_refl _) ?_
      intro vn wn hr hb hg hat
      obtain ⟨An, cn, en⟩ := Kd.R_slice hr
      subst en
      clear hg hat
      rw [List.length_replicate, show (cp).toNat = cx.cap.toNat by rw [HCX.out.cap]] at hr
      have hF2 := hF.set 1 hb ⟨(Kd.int .i64), 3, .slice An cx.cap.toNat cn, List.replicate cx.cap.toNat (0 : Int)⟩ hr
      refine hK.out _ _ (s6 hF2.x) (fun hHeld => ?_)
      rw [List.length_replicate, show (cp).toNat = cx.cap.toNat by rw [HCX.out.cap]]
      exact J01010 (s1, .slice An cx.cap.toNat cn, s3, s4, s5) wn hF2
    ·
      refine Kd.R_make_step (Kd.raw 2) (w0 := wb) wb.heap.size 114 (by rfl) rfl 71 (.tmp 26) (.tmp 26) rfl pr rfl rfl und_hs (.agg #[.int .i64 0, .int .i64 0]) 16 inf_h rfl (by decide) (by decide) [.int .i64 0, .int .i64 0] (ok := fun _ => True) (okp := fun _ => False) (by exact mz2 _ _) (fun _ h => h.elim) trivial HN9.out.1 HN9.out.2 (Below.refl _ _) (Nat.le_refl _) ?_
      intro vn wn hr hb hg hat
      obtain ⟨An, cn, en⟩ := Kd.R_slice hr
      subst en
      clear hg hat
      rw [List.length_replicate, show (pr).toNat = cx.prod by have := HCX.out.prod; omega] at hr
      have hF2 := hF.set 2 hb ⟨(Kd.raw 2), 114, .slice An cx.prod cn, List.replicate cx.prod [.int .i64 0, .int .i64 0]⟩ hr
      refine hK.out _ _ (s6 hF2.x) (fun hHeld => ?_)
      rw [List.length_replicate, show (pr).toNat = cx.prod by have := HCX.out.prod; omega]
      exact J00110 (s1, s2, .slice An cx.prod cn, s4, s5) wn hF2
    ·
      refine Kd.R_make_step (Kd.int .i64) (w0 := wb) wb.heap.size 3 (by rfl) rfl 37 (.tmp 30) (.tmp 30) rfl (up.length : Int) rfl rfl und_is (.int .i64 0) 8 inf_i rfl (by decide) (by decide) (0 : Int) (ok := fun _ => True) (okp := fun _ => False) (by exact rfl) (fun _ h => h.elim) trivial HN13.out.1 HN13.out.2 (Below.refl _ _) (Nat.le_refl _) ?_
      intro vn wn hr hb hg hat
      obtain ⟨An, cn, en⟩ := Kd.R_slice hr
      subst en
      clear hg hat
      rw [List.length_replicate, Int.toNat_natCast] at hr
      have hF2 := hF.set 4 hb ⟨(Kd.int .i64), 3, .slice An up.length cn, List.replicate up.length (0 : Int)⟩ hr
      refine hK.out _ _ (s6 hF2.x) (fun hHeld => ?_)
      rw [List.length_replicate, Int.toNat_natCast]
      exact J00011 (s1, s2, s3, s4, .slice An up.length cn) wn hF2
  refine join_ (σ := Value × Value × Value × Value × Value) 8 (bm 18 6071) (fun s => [(27, s.2.2.1)]) (fun s wb => NR w6 w.heap.size #[.int .i64 v, .int .i64 wd, .int .i64 cp, .int .i64 pr, .int .u64 sa, .slice A2 up.length C2] A2 C2 up (rwsN cx up.length false false true false false s) wb) (fun s wb hF => ?_) (fun J00100 => ?_)
  ·
    obtain ⟨s1, s2, s3, s4, s5⟩ := s
    refine norm_ (a' := ?_) ?_ ?_
    rotate_left
    · simp only [putAll, Act.put, List.setIfInBounds_toArray, List.set_cons_zero, List.set_cons_succ, i64_w, i32_w]
      rfl
    refine four_ (i := 3) (j := 6) (k := 11) (m := 13) (Ni := some 21) (Nj := some 24) (Nk := some 29) (Nm := some 31) (bm 18 6079) (bm 18 6135) (bm 18 8119) (bm 18 14263) rfl rfl rfl rfl rfl rfl rfl rfl (by kernel_rfl) (by decide) (by decide) (by decide) (by decide) (fun K hK => ?_) (fun K hK => ?_) (fun K hK => ?_) (fun K hK => ?_)
    ·
      refine goes_ Tryd.func33 (by kernel_rfl) rfl #[.slice A2 up.length C2] (by rfl) rfl rfl (by (try simp only [List.map_toArray, List.map_cons, List.map_nil]); first | done | rfl) ?_
      with_reducible refine (ends_okR hF.r HCX.out.ck hF.t).mono ?_
      rintro q wn ⟨Ae, ce, rfl, hre, hb⟩
      refine ⟨_, rfl, ?_⟩
      rw [HCX.out.ends, Mo.ints_len] at hre
      have hF2 := hF.set 0 hb ⟨Kd.int .i64, 3, .slice Ae cx.ends.length ce, ints cx.ends⟩ hre
      refine hK.out _ _ (s6 hF2.x) (fun hHeld => ?_)
      rw [HCX.out.ends, Mo.ints_len]
      exact J10100 (.slice Ae cx.ends.length ce, s2, s3, s4, s5) wn hF2
    ·
      refine Kd.R_make_step (Kd.int .i64) (w0 := wb) wb.heap.size 3 (by rfl) rfl 37 (.tmp 23) (.tmp 23) rfl cp rfl rfl und_is (.int .i64 0) 8 inf_i rfl (by decide) (by decide) (0 : Int) (ok := fun _ => True) (okp := fun _ => False) (by exact rfl) (fun _ h => h.elim) trivial HN6.out.1 HN6.out.2 (Below.refl _ _) (Nat.le_refl _) ?_
      intro vn wn hr hb hg hat
      obtain ⟨An, cn, en⟩ := Kd.R_slice hr
      subst en
      clear hg hat
      rw [List.length_replicate, show (cp).toNat = cx.cap.toNat by rw [HCX.out.cap]] at hr
      have hF2 := hF.set 1 hb ⟨(Kd.int .i64), 3, .slice An cx.cap.toNat cn, List.replicate cx.cap.toNat (0 : Int)⟩ hr
      refine hK.out _ _ (s6 hF2.x) (fun hHeld => ?_)
      rw [List.length_replicate, show (cp).toNat = cx.cap.toNat by rw [HCX.out.cap]]
      exact J01100 (s1, .slice An cx.cap.toNat cn, s3, s4, s5) wn hF2
    ·
      refine Kd.R_make_step (Kd.int .i64) (w0 := wb) wb.heap.size 3 (by rfl) rfl 37 (.tmp 28) (.tmp 28) rfl (up.length : Int) rfl rfl und_is (.int .i64 0) 8 inf_i rfl (by decide) (by decide) (0 : Int) (ok := fun _ => True) (okp := fun _ => False) (by exact rfl) (fun _ h => h.elim) trivial HN11.out.1 HN11.out.2 (Below.refl _ _) (Nat.le_refl _) ?_
      intro vn wn hr hb hg hat
      obtain ⟨An, cn, en⟩ := Kd.R_slice hr
      subst en
      clear hg hat
      rw [List.length_replicate, Int.toNat_natCast] at hr
      have hF2 := hF.set 3 hb ⟨(Kd.int .i64), 3, .slice An up.length cn, List.replicate up.length (0 : Int)⟩ hr
      refine hK.out _ _ (s6 hF2.x) (fun hHeld => ?_)
      rw [List.length_replicate, Int.toNat_natCast]
      exact J00110 (s1, s2, s3, .slice An up.length cn, s5) wn hF2
    ·
      refine Kd.R_make_step (Kd.int .i64) (w0 := wb) wb.heap.size 3 (by rfl) rfl 37 (.tmp 30) (.tmp 30) rfl (up.length : Int) rfl rfl und_is (.int .i64 0) 8 inf_i rfl (by decide) (by decide) (0 : Int) (ok := fun _ => True) (okp := fun _ => False) (by exact rfl) (fun _ h => h.elim) trivial HN13.out.1 HN13.out.2 (Below.refl _ _) (Nat.le_refl _) ?_
      intro vn wn hr hb hg hat
      obtain ⟨An, cn, en⟩ := Kd.R_slice hr
      subst en
      clear hg hat
      rw [List.length_replicate, Int.toNat_natCast] at hr
      have hF2 := hF.set 4 hb ⟨(Kd.int .i64), 3, .slice An up.length cn, List.replicate up.length (0 : Int)⟩ hr
      refine hK.out _ _ (s6 hF2.x) (fun hHeld => ?_)
      rw [List.length_replicate, Int.toNat_natCast]
      exact J00101 (s1, s2, s3, s4, .slice An up.length cn) wn hF2
  refine join_ (σ := Value × Value × Value × Value × Value) 8 (bm 18 5623) (fun s => [(24, s.2.1)]) (fun s wb => NR w6 w.heap.size #[.int .i64 v, .int .i64 wd, .int .i64 cp, .int .i64 pr, .int .u64 sa, .slice A2 up.length C2] A2 C2 up (rwsN cx up.length false true false false false s) wb) (fun s wb hF => ?_) (fun J01000 => ?_)
  ·
    obtain ⟨s1, s2, s3, s4, s5⟩ := s
    refine norm_ (a' := ?_) ?_ ?_
    rotate_left
    · simp only [putAll, Act.put, List.setIfInBounds_toArray, List.set_cons_zero, List.set_cons_succ, i64_w, i32_w]
      rfl
    refine four_ (i := 3) (j := 9) (k := 11) (m := 13) (Ni := some 21) (Nj := some 27) (Nk := some 29) (Nm := some 31) (bm 18 5631) (bm 18 6135) (bm 18 7671) (bm 18 13815) rfl rfl rfl rfl rfl rfl rfl rfl (by kernel_rfl) (by decide) (by decide) (by decide) (by decide) (fun K hK => ?_) (fun K hK => ?_) (fun K hK => ?_) (fun K hK => ?_)
    ·
      refine goes_ Tryd.func33 (by kernel_rfl) rfl #[.slice A2 up.length C2] (by rfl) rfl rfl (by (try simp only [List.map_toArray, List.map_cons, List.map_nil]); first | done | rfl) ?_
      with_reducible refine (ends_okR hF.r HCX.out.ck hF.t).mono ?_
      rintro q wn ⟨Ae, ce, rfl, hre, hb⟩
      refine ⟨_, rfl, ?_⟩
      rw [HCX.out.ends, Mo.ints_len] at hre
      have hF2 := hF.set 0 hb ⟨Kd.int .i64, 3, .slice Ae cx.ends.length ce, ints cx.ends⟩ hre
      refine hK.out _ _ (s6 hF2.x) (fun hHeld => ?_)
      rw [HCX.out.ends, Mo.ints_len]
      exact J11000 (.slice Ae cx.ends.length ce, s2, s3, s4, s5) wn hF2
    ·
      refine Kd.R_make_step (Kd.raw 2) (w0 := wb) wb.heap.size 114 (by rfl) rfl 71 (.tmp 26) (.tmp 26) rfl pr rfl rfl und_hs (.agg #[.int .i64 0, .int .i64 0]) 16 inf_h rfl (by decide) (by decide) [.int .i64 0, .int .i64 0] (ok := fun _ => True) (okp := fun _ => False) (by exact mz2 _ _) (fun _ h => h.elim) trivial HN9.out.1 HN9.out.2 (Below.refl _ _) (Nat.le_refl _) ?_
      intro vn wn hr hb hg hat
      obtain ⟨An, cn, en⟩ := Kd.R_slice hr
      subst en
      clear hg hat
      rw [List.length_replicate, show (pr).toNat = cx.prod by have := HCX.out.prod; omega] at hr
      have hF2 := hF.set 2 hb ⟨(Kd.raw 2), 114, .slice An cx.prod cn, List.replicate cx.prod [.int .i64 0, .int .i64 0]⟩ hr
      refine hK.out _ _ (s6 hF2.x) (fun hHeld => ?_)
      rw [List.length_replicate, show (pr).toNat = cx.prod by have := HCX.out.prod; omega]
      exact J01100 (s1, s2, .slice An cx.prod cn, s4, s5) wn hF2
    ·
      refine Kd.R_make_step (Kd.int .i64) (w0 := wb) wb.heap.size 3 (by rfl) rfl 37 (.tmp 28) (.tmp 28) rfl (up.length : Int) rfl rfl und_is (.int .i64 0) 8 inf_i rfl (by decide) (by decide) (0 : Int) (ok := fun _ => True) (okp := fun _ => False) (by exact rfl) (fun _ h => h.elim) trivial HN11.out.1 HN11.out.2 (Below.refl _ _) (Nat.le_refl _) ?_
      intro vn wn hr hb hg hat
      obtain ⟨An, cn, en⟩ := Kd.R_slice hr
      subst en
      clear hg hat
      rw [List.length_replicate, Int.toNat_natCast] at hr
      have hF2 := hF.set 3 hb ⟨(Kd.int .i64), 3, .slice An up.length cn, List.replicate up.length (0 : Int)⟩ hr
      refine hK.out _ _ (s6 hF2.x) (fun hHeld => ?_)
      rw [List.length_replicate, Int.toNat_natCast]
      exact J01010 (s1, s2, s3, .slice An up.length cn, s5) wn hF2
    ·
      refine Kd.R_make_step (Kd.int .i64) (w0 := wb) wb.heap.size 3 (by rfl) rfl 37 (.tmp 30) (.tmp 30) rfl (up.length : Int) rfl rfl und_is (.int .i64 0) 8 inf_i rfl (by decide) (by decide) (0 : Int) (ok := fun _ => True) (okp := fun _ => False) (by exact rfl) (fun _ h => h.elim) trivial HN13.out.1 HN13.out.2 (Below.refl _ _) (Nat.le_refl _) ?_
      intro vn wn hr hb hg hat
      obtain ⟨An, cn, en⟩ := Kd.R_slice hr
      subst en
      clear hg hat
      rw [List.length_replicate, Int.toNat_natCast] at hr
      have hF2 := hF.set 4 hb ⟨(Kd.int .i64), 3, .slice An up.length cn, List.replicate up.length (0 : Int)⟩ hr
      refine hK.out _ _ (s6 hF2.x) (fun hHeld => ?_)
      rw [List.length_replicate, Int.toNat_natCast]
      exact J01001 (s1, s2, s3, s4, .slice An up.length cn) wn hF2
  refine join_ (σ := Value × Value × Value × Value × Value) 8 (bm 18 5567) (fun s => [(21, s.1)]) (fun s wb => NR w6 w.heap.size #[.int .i64 v, .int .i64 wd, .int .i64 cp, .int .i64 pr, .int .u64 sa, .slice A2 up.length C2] A2 C2 up (rwsN cx up.length true false false false false s) wb) (fun s wb hF => ?_) (fun J10000 => ?_)
  ·
    obtain ⟨s1, s2, s3, s4, s5⟩ := s
    refine norm_ (a' := ?_) ?_ ?_
    rotate_left
    · simp only [putAll, Act.put, List.setIfInBounds_toArray, List.set_cons_zero, List.set_cons_succ, i64_w, i32_w]
      rfl
    refine four_ (i := 6) (j := 9) (k := 11) (m := 13) (Ni := some 24) (Nj := some 27) (Nk := some 29) (Nm := some 31) (bm 18 5631) (bm 18 6079) (bm 18 7615) (bm 18 13759) rfl rfl rfl rfl rfl rfl rfl rfl (by kernel_rfl) (by decide) (by decide) (by decide) (by decide) (fun K hK => ?_) (fun K hK => ?_) (fun K hK => ?_) (fun K hK => ?_)
    ·
      refine Kd.R_make_step (Kd.int .i64) (w0 := wb) wb.heap.size 3 (by rfl) rfl 37 (.tmp 23) (.tmp 23) rfl cp rfl rfl und_is (.int .i64 0) 8 inf_i rfl (by decide) (by decide) (0 : Int) (ok := fun _ => True) (okp := fun _ => False) (by exact rfl) (fun _ h => h.elim) trivial HN6.out.1 HN6.out.2 (Below.refl _ _) (Nat.le_refl _) ?_
      intro vn wn hr hb hg hat
      obtain ⟨An, cn, en⟩ := Kd.R_slice hr
      subst en
      clear hg hat
      rw [List.length_replicate, show (cp).toNat = cx.cap.toNat by rw [HCX.out.cap]] at hr
      have hF2 := hF.set 1 hb ⟨(Kd.int .i64), 3, .slice An cx.cap.toNat cn, List.replicate cx.cap.toNat (0 : Int)⟩ hr
      refine hK.out _ _ (s6 hF2.x) (fun hHeld => ?_)
      rw [List.length_replicate, show (cp).toNat = cx.cap.toNat by rw [HCX.out.cap]]
      exact J11000 (s1, .slice An cx.cap.toNat cn, s3, s4, s5) wn hF2
    ·
      refine Kd.R_make_step (Kd.raw 2) (w0 := wb) wb.heap.size 114 (by rfl) rfl 71 (.tmp 26) (.tmp 26) rfl pr rfl rfl und_hs (.agg #[.int .i64 0, .int .i64 0]) 16 inf_h rfl (by decide) (by decide) [.int .i64 0, .int .i64 0] (ok := fun _ => True) (okp := fun _ => False) (by exact mz2 _ _) (fun _ h => h.elim) trivial HN9.out.1 HN9.out.2 (Below.refl _ _) (Nat.le_refl _) ?_
      intro vn wn hr hb hg hat
      obtain ⟨An, cn, en⟩ := Kd.R_slice hr
      subst en
      clear hg hat
      rw [List.length_replicate, show (pr).toNat = cx.prod by have := HCX.out.prod; omega] at hr
      have hF2 := hF.set 2 hb ⟨(Kd.raw 2), 114, .slice An cx.prod cn, List.replicate cx.prod [.int .i64 0, .int .i64 0]⟩ hr
      refine hK.out _ _ (s6 hF2.x) (fun hHeld => ?_)
      rw [List.length_replicate, show (pr).toNat = cx.prod by have := HCX.out.prod; omega]
      exact J10100 (s1, s2, .slice An cx.prod cn, s4, s5) wn hF2
    ·
      refine Kd.R_make_step (Kd.int .i64) (w0 := wb) wb.heap.size 3 (by rfl) rfl 37 (.tmp 28) (.tmp 28) rfl (up.length : Int) rfl rfl und_is (.int .i64 0) 8 inf_i rfl (by decide) (by decide) (0 : Int) (ok := fun _ => True) (okp := fun _ => False) (by exact rfl) (fun _ h => h.elim) trivial HN11.out.1 HN11.out.2 (Below.refl _ _) (Nat.le_refl _) ?_
      intro vn wn hr hb hg hat
      obtain ⟨An, cn, en⟩ := Kd.R_slice hr
      subst en
      clear hg hat
      rw [List.length_replicate, Int.toNat_natCast] at hr
      have hF2 := hF.set 3 hb ⟨(Kd.int .i64), 3, .slice An up.length cn, List.replicate up.length (0 : Int)⟩ hr
      refine hK.out _ _ (s6 hF2.x) (fun hHeld => ?_)
      rw [List.length_replicate, Int.toNat_natCast]
      exact J10010 (s1, s2, s3, .slice An up.length cn, s5) wn hF2
    ·
      refine Kd.R_make_step (Kd.int .i64) (w0 := wb) wb.heap.size 3 (by rfl) rfl 37 (.tmp 30) (.tmp 30) rfl (up.length : Int) rfl rfl und_is (.int .i64 0) 8 inf_i rfl (by decide) (by decide) (0 : Int) (ok := fun _ => True) (okp := fun _ => False) (by exact rfl) (fun _ h => h.elim) trivial HN13.out.1 HN13.out.2 (Below.refl _ _) (Nat.le_refl _) ?_
      intro vn wn hr hb hg hat
      obtain ⟨An, cn, en⟩ := Kd.R_slice hr
      subst en
      clear hg hat
      rw [List.length_replicate, Int.toNat_natCast] at hr
      have hF2 := hF.set 4 hb ⟨(Kd.int .i64), 3, .slice An up.length cn, List.replicate up.length (0 : Int)⟩ hr
      refine hK.out _ _ (s6 hF2.x) (fun hHeld => ?_)
      rw [List.length_replicate, Int.toNat_natCast]
      exact J10001 (s1, s2, s3, s4, .slice An up.length cn) wn hF2
  obtain ⟨s1, hs1⟩ : ∃ s1 : Value, s1 = undef := ⟨_, rfl⟩
  have h5 : ∀ (i : Nat) (x : Rw), (rwsN cx up.length false false false false false (s1, s1, s1, s1, s1))[i]? = some (true, x) → False := by
    intro i x hi
    match i, hi with
    | 0, hi => cases hi
    | 1, hi => cases hi
    | 2, hi => cases hi
    | 3, hi => cases hi
    | 4, hi => cases hi
    | n + 5, hi => cases hi
  have hF : NR w6 w.heap.size #[.int .i64 v, .int .i64 wd, .int .i64 cp, .int .i64 pr, .int .u64 sa, .slice A2 up.length C2] A2 C2 up (rwsN cx up.length false false false false false (s1, s1, s1, s1, s1)) w6 := ⟨Below.refl _ _, HX5.out, HT.out.below HB5.out, ⟨(Kd.S_reads' HS6.out).2.2, (Kd.S_reads' HS6.out).2.1, HH.out.sm⟩, fun i x hi => (h5 i x hi).elim, fun i j x y q hij hi => (h5 i x hi).elim⟩
  clear h5
  refine five_ (i := 3) (j := 6) (k := 9) (m := 11) (n := 13) (Ni := some 21) (Nj := some 24) (Nk := some 27) (Nm := some 29) (Nn := some 31) (bm 18 5567) (bm 18 5623) (bm 18 6071) (bm 18 7607) (bm 18 13751) rfl rfl rfl rfl rfl rfl rfl rfl rfl rfl (by kernel_rfl) (by decide) (by decide) (by decide) (by decide) (by decide) (fun K hK => ?_) (fun K hK => ?_) (fun K hK => ?_) (fun K hK => ?_) (fun K hK => ?_)
  ·
    refine goes_ Tryd.func33 (by kernel_rfl) rfl #[.slice A2 up.length C2] (by rfl) rfl rfl (by (try simp only [List.map_toArray, List.map_cons, List.map_nil]); first | done | rfl) ?_
    with_reducible refine (ends_okR hF.r HCX.out.ck hF.t).mono ?_
    rintro q wn ⟨Ae, ce, rfl, hre, hb⟩
    refine ⟨_, rfl, ?_⟩
    rw [HCX.out.ends, Mo.ints_len] at hre
    have hF2 := hF.set 0 hb ⟨Kd.int .i64, 3, .slice Ae cx.ends.length ce, ints cx.ends⟩ hre
    refine hK.out _ _ (s6 hF2.x) (fun hHeld => ?_)
    rw [HCX.out.ends, Mo.ints_len]
    exact J10000 (.slice Ae cx.ends.length ce, s1, s1, s1, s1) wn hF2
  ·
    refine Kd.R_make_step (Kd.int .i64) (w0 := w6) w6.heap.size 3 (by rfl) rfl 37 (.tmp 23) (.tmp 23) rfl cp rfl rfl und_is (.int .i64 0) 8 inf_i rfl (by decide) (by decide) (0 : Int) (ok := fun _ => True) (okp := fun _ => False) (by exact rfl) (fun _ h => h.elim) trivial HN6.out.1 HN6.out.2 (Below.refl _ _) (Nat.le_refl _) ?_
    intro vn wn hr hb hg hat
    obtain ⟨An, cn, en⟩ := Kd.R_slice hr
    subst en
    clear hg hat
    rw [List.length_replicate, show (cp).toNat = cx.cap.toNat by rw [HCX.out.cap]] at hr
    have hF2 := hF.set 1 hb ⟨(Kd.int .i64), 3, .slice An cx.cap.toNat cn, List.replicate cx.cap.toNat (0 : Int)⟩ hr
    refine hK.out _ _ (s6 hF2.x) (fun hHeld => ?_)
    rw [List.length_replicate, show (cp).toNat = cx.cap.toNat by rw [HCX.out.cap]]
    exact J01000 (s1, .slice An cx.cap.toNat cn, s1, s1, s1) wn hF2
  ·
    refine Kd.R_make_step (Kd.raw 2) (w0 := w6) w6.heap.size 114 (by rfl) rfl 71 (.tmp 26) (.tmp 26) rfl pr rfl rfl und_hs (.agg #[.int .i64 0, .int .i64 0]) 16 inf_h rfl (by decide) (by decide) [.int .i64 0, .int .i64 0] (ok := fun _ => True) (okp := fun _ => False) (by exact mz2 _ _) (fun _ h => h.elim) trivial HN9.out.1 HN9.out.2 (Below.refl _ _) (Nat.le_refl _) ?_
    intro vn wn hr hb hg hat
    obtain ⟨An, cn, en⟩ := Kd.R_slice hr
    subst en
    clear hg hat
    rw [List.length_replicate, show (pr).toNat = cx.prod by have := HCX.out.prod; omega] at hr
    have hF2 := hF.set 2 hb ⟨(Kd.raw 2), 114, .slice An cx.prod cn, List.replicate cx.prod [.int .i64 0, .int .i64 0]⟩ hr
    refine hK.out _ _ (s6 hF2.x) (fun hHeld => ?_)
    rw [List.length_replicate, show (pr).toNat = cx.prod by have := HCX.out.prod; omega]
    exact J00100 (s1, s1, .slice An cx.prod cn, s1, s1) wn hF2
  ·
    refine Kd.R_make_step (Kd.int .i64) (w0 := w6) w6.heap.size 3 (by rfl) rfl 37 (.tmp 28) (.tmp 28) rfl (up.length : Int) rfl rfl und_is (.int .i64 0) 8 inf_i rfl (by decide) (by decide) (0 : Int) (ok := fun _ => True) (okp := fun _ => False) (by exact rfl) (fun _ h => h.elim) trivial HN11.out.1 HN11.out.2 (Below.refl _ _) (Nat.le_refl _) ?_
    intro vn wn hr hb hg hat
    obtain ⟨An, cn, en⟩ := Kd.R_slice hr
    subst en
    clear hg hat
    rw [List.length_replicate, Int.toNat_natCast] at hr
    have hF2 := hF.set 3 hb ⟨(Kd.int .i64), 3, .slice An up.length cn, List.replicate up.length (0 : Int)⟩ hr
    refine hK.out _ _ (s6 hF2.x) (fun hHeld => ?_)
    rw [List.length_replicate, Int.toNat_natCast]
    exact J00010 (s1, s1, s1, .slice An up.length cn, s1) wn hF2
  ·
    refine Kd.R_make_step (Kd.int .i64) (w0 := w6) w6.heap.size 3 (by rfl) rfl 37 (.tmp 30) (.tmp 30) rfl (up.length : Int) rfl rfl und_is (.int .i64 0) 8 inf_i rfl (by decide) (by decide) (0 : Int) (ok := fun _ => True) (okp := fun _ => False) (by exact rfl) (fun _ h => h.elim) trivial HN13.out.1 HN13.out.2 (Below.refl _ _) (Nat.le_refl _) ?_
    intro vn wn hr hb hg hat
    obtain ⟨An, cn, en⟩ := Kd.R_slice hr
    subst en
    clear hg hat
    rw [List.length_replicate, Int.toNat_natCast] at hr
    have hF2 := hF.set 4 hb ⟨(Kd.int .i64), 3, .slice An up.length cn, List.replicate up.length (0 : Int)⟩ hr
    refine hK.out _ _ (s6 hF2.x) (fun hHeld => ?_)
    rw [List.length_replicate, Int.toNat_natCast]
    exact J00001 (s1, s1, s1, s1, .slice An up.length cn) wn hF2
end Go.Proofs.YtgibmlbdkijflaaDoor.So
set_option linter.unusedVariables false
set_option linter.unusedSimpArgs false
set_option maxRecDepth 100000
namespace Go.Proofs.YtgibmlbdkijflaaDoor.So
open Go.RowKit Go.Proofs.YtgibmlbdkijflaaDoorW.PrintWords Go.Proofs.YtgibmlbdkijflaaDoorW.PrintLast Go.Proofs.YtgibmlbdkijflaaDoorW.PrintMore
open Ow
open Mo (Aside Cx U64 I64 ints least run cutW plusW New below_low tn1 meas1 w64 i1 wrapE)
open QGc (checkC)
open Graph (checkG Gv)
open Mo (CxOk copy_ok)
open Graph (Tabled ends_okR)
theorem und_hh : Tryd.prog.underlying 77 = some (.slice 81) := by kernel_rfl
theorem inf_hh : (Tryd.prog.info? 81).map (fun i => (i.zero, i.size, i.bytes)) = some (some (.agg #[.int .i64 0, .bool false, .bool false, .int .u64 0, .int .i64 0, .int .i64 0, .int .i64 0]), 7, 48) := by kernel_rfl
theorem hR0 (cx : Cx) (t : Nat) : hR cx (st0 cx) t = [.int .i64 cx.cap, .bool (decide (t < cx.prod)), .bool false, .int .u64 0, .int .i64 0, .int .i64 0, .int .i64 0] := by
  have hh : heldL (st0 cx) t = hl0 := by
    unfold heldL st0
    simp only [List.getD_eq_getElem?_getD, List.getElem?_replicate]
    split <;> rfl
  have hz : ∀ n k : Nat, (List.replicate n (0 : Int)).getD k 0 = 0 := fun n k => by
    simp only [List.getD_eq_getElem?_getD, List.getElem?_replicate]
    split <;> rfl
  unfold hR
  by_cases hp : t < cx.prod
  · rw [if_pos hp, hh, decide_eq_true hp]
    rfl
  · rw [if_neg hp, decide_eq_false hp]
    show [_, _, _, _, _, Value.int .i64 ((List.replicate cx.up.length (0 : Int)).getD _ 0), Value.int .i64 ((List.replicate cx.up.length (0 : Int)).getD _ 0)] = _
    rw [hz]
def rowsJ (cx : Cx) (Al : Option Addr) (cl : Nat) (Ah : Option Addr) (j ch : Nat) : List Rw := [⟨Kd.raw 2, 123, .slice none 0 0, []⟩, ⟨Kd.int .i64, 3, .slice Al cx.cap.toNat cl, List.replicate cx.cap.toNat 0⟩, ⟨Kd.raw 7, 81, .slice Ah j ch, (List.range j).map (hR cx (st0 cx))⟩]
structure RN (w0 w : World) (v wd sa : Int) (A : Option Addr) (C : Nat) (up : List (List Int)) (cx : Cx) (B : Nat) (Al : Option Addr) (cl : Nat) (Ah : Option Addr) (j ch : Nat) (W : World) : Prop where
  b : Below w.heap.size w W
  x : W.heap[w.heap.size]? = some (.cells #[.int .i64 v, .int .i64 wd, .int .i64 cx.cap, .int .i64 (cx.prod : Int), .int .u64 sa, .slice A up.length C] 25 (0, 0))
  o : OW w0.heap.size W B 79 (rowsJ cx Al cl Ah j ch)
  bx : W.heap[B]? = some (.cells #[.int .i64 v, .int .i64 wd, .int .i64 cx.cap, .int .i64 (cx.prod : Int), .int .u64 sa, .slice A up.length C, .slice none 0 0, .slice Al cx.cap.toNat cl, .slice Ah j ch] 79 (0, 0))
  n : ∀ q, OwnB (rowsJ cx Al cl Ah j ch) B q → w.heap.size ≤ q
section
variable {w0 w W W1 : World} {v wd sa : Int} {A : Option Addr} {C : Nat} {up : List (List Int)} {cx : Cx} {B : Nat} {Al : Option Addr} {cl : Nat} {Ah : Option Addr} {j ch : Nat}
theorem RN.below (h : RN w0 w v wd sa A C up cx B Al cl Ah j ch W) (b : Below W.heap.size W W1) : RN w0 w v wd sa A C up cx B Al cl Ah j ch W1 :=
  { h with b := h.b.trans (b.mono h.b.size), x := blk_below h.x b, o := h.o.below b, bx := blk_below h.bx b }
theorem RN.grow (h : RN w0 w v wd sa A C up cx B Al cl Ah j ch W) {A2 : Option Addr} {C2 : Nat} (hr : (Kd.raw 7).R 81 W1 w0.heap.size (fun _ => True) (.slice A2 (j + 1) C2) ((List.range j).map (hR cx (st0 cx)) ++ [hR cx (st0 cx) j])) (hg : W.grownBy W1 (Value.slice Ah j ch).ownBlock) (hn : New W (.slice Ah j ch) (.slice A2 (j + 1) C2)) : RN w0 w v wd sa A C up cx B Al cl A2 (j + 1) C2 (W1.setCell ⟨B, 8, none⟩ (.slice A2 (j + 1) C2)) := by
  have e : (List.range j).map (hR cx (st0 cx)) ++ [hR cx (st0 cx) j] = (List.range (j + 1)).map (hR cx (st0 cx)) := by rw [List.range_succ, List.map_append]; rfl
  rw [e] at hr
  obtain ⟨hx, hw⟩ := h.o.upd 2 ⟨Kd.raw 7, 81, .slice A2 (j + 1) C2, (List.range (j + 1)).map (hR cx (st0 cx))⟩ rfl ⟨rfl, show (81 : Nat) ≠ 79 by decide⟩ hr hg hn
  have hno : ∀ q, (Value.slice Ah j ch).ownBlock = some q → w.heap.size ≤ q := fun q hq => h.n q (.inr ⟨2, _, rfl, hq⟩)
  have hB : w.heap.size ≤ B := h.n B (.inl rfl)
  have hbb := blk_grown h.bx hg (fun e => h.o.box_ne (i := 2) rfl e.symm rfl)
  have hxx := blk_grown h.x hg (fun e => by
    exact (Kd.R_ne (h.o.r 2 _ rfl) h.x (show (81 : Nat) ≠ 25 by decide)) e)
  exact { b := (h.b.grown hg h.b.size hno).setCell hB _
          x := blk_far hxx (p := ⟨B, 8, none⟩) (fun e => blk_ne hxx hbb (by decide) e) _
          o := hx.setB 8 _
          bx := blk_put hbb 8 _ rfl
          n := fun q hq => by
            rcases hw q hq with h1 | h1
            · exact h.n q h1
            · exact Nat.le_trans h.b.size h1 }
end
structure NewR (w W : World) (base : Nat) (cx : Cx) (lp : Lp) (r : Ending) : Prop where mk ::
  out : ∃ B k, r = .returned (.pointer (some ⟨B, 0, none⟩)) ∧ Rm base W B k cx lp (st0 cx) 0 ∧ (∀ q, OwnB (rowsR k cx (st0 cx)) B q → w.heap.size ≤ q) ∧ Below w.heap.size w W
theorem RN.rm {w0 w W : World} {v wd sa : Int} {A : Option Addr} {C : Nat} {up : List (List Int)} {cx : Cx} {B : Nat} {Al : Option Addr} {cl : Nat} {Ah : Option Addr} {ch : Nat} (h : RN w0 w v wd sa A C up cx B Al cl Ah (cx.prod + cx.up.length) ch W) (hx : CxOk v wd cx.cap cx.prod sa up cx) (hck : checkC v wd cx.cap cx.prod up = 0) (hu : U64 sa) (hsm : QGc.Sm up) (hC : up.length ≤ C) (hf : Kd.F (Kd.slice 3 (Kd.int .i64)) w (fun q => q < w0.heap.size) A up.length up) :
    ∃ k, Rm w0.heap.size W B k cx (lpOf wd sa cx.cap) (st0 cx) 0 ∧ ∀ q, OwnB (rowsR k cx (st0 cx)) B q → w.heap.size ≤ q :=
  ⟨⟨v, wd, cx.cap, cx.prod, sa, A, up.length, C, none, 0, 0, Al, cx.cap.toNat, cl, Ah, cx.prod + cx.up.length, ch⟩, { x := h.o, b := h.bx, u := by rw [show cx.up.map ints = up from hx.uq.symm]; exact Kd.F_below hf h.b, s := ks_of hx hck hu hsm hC, wf := Wf.zero hx.c64.1, i := Nat.zero_le _ }, h.n⟩
set_option maxHeartbeats 16000000 in
theorem rnew (w0 w : World) (h0 : Below w0.heap.size w0 w) (v wd cp pr sa : Int) (A : Option Addr) (C : Nat) (up : List (List Int)) (hf : Kd.F (Kd.slice 3 (Kd.int .i64)) w (fun q => q < w0.heap.size) A up.length up) (hC : up.length ≤ C) (hsm : QGc.Sm up) (hc : checkC v wd cp pr up = 0) (hu : U64 sa) (cx : Cx) (hx : CxOk v wd cp pr sa up cx) : Calls Tryd.prog 11 #[.agg #[.int .i64 v, .int .i64 wd, .int .i64 cp, .int .i64 pr, .int .u64 sa, .slice A up.length C]] w fun r W => NewR w W w0.heap.size cx (lpOf wd sa cp) r := by
  have e1 := hx.cap
  have e2 := hx.prod
  subst e1
  subst e2
  have hb0 := below_alloc (Below.refl w.heap.size w) (.cells #[.int .i64 v, .int .i64 wd, .int .i64 cx.cap, .int .i64 (cx.prod : Int), .int .u64 sa, .slice A up.length C] 25)
  have HX := Aside.mk (heap_alloc_new w (.cells #[.int .i64 v, .int .i64 wd, .int .i64 cx.cap, .int .i64 (cx.prod : Int), .int .u64 sa, .slice A up.length C] 25))
  have HF := Aside.mk hf
  have HCC := Aside.mk hC
  have HSM := Aside.mk hsm
  have HCK := Aside.mk hc
  have HCX := Aside.mk hx
  have HU := Aside.mk hu
  have H0 := Aside.mk h0
  have HB := Aside.mk hb0
  have HLEN := Aside.mk (show up.length = cx.up.length by rw [hx.uq, List.length_map])
  clear hb0 hf hC hsm hc hx hu h0
  go_enter Tryd.func11, Tryd.ntmps11
  go_upto_region 1 with (fail)
  generalize w.alloc (.cells #[.int .i64 v, .int .i64 wd, .int .i64 cx.cap, .int .i64 (cx.prod : Int), .int .u64 sa, .slice A up.length C] 25) = w2 at *
  refine start_ (n := 7) (S := fun w' => w'.cell? ⟨w.heap.size, 0, none⟩ = some (.int .i64 v) ∧ w'.cell? ⟨w.heap.size, 1, none⟩ = some (.int .i64 wd) ∧ w'.cell? ⟨w.heap.size, 2, none⟩ = some (.int .i64 cx.cap) ∧ w'.cell? ⟨w.heap.size, 3, none⟩ = some (.int .i64 (cx.prod : Int)) ∧ w'.cell? ⟨w.heap.size, 4, none⟩ = some (.int .u64 sa) ∧ w'.cell? ⟨w.heap.size, 5, none⟩ = some (.slice A up.length C) ∧ True) (ds := []) (bm 7 0) (by kernel_rfl) rfl rfl ⟨(blk_cell (blk_drew HX.out) 0).trans rfl, (blk_cell (blk_drew HX.out) 1).trans rfl, (blk_cell (blk_drew HX.out) 2).trans rfl, (blk_cell (blk_drew HX.out) 3).trans rfl, (blk_cell (blk_drew HX.out) 4).trans rfl, (blk_cell (blk_drew HX.out) 5).trans rfl, trivial⟩ (fun hHeld => ?_)
  replace HX := Aside.mk (blk_drew HX.out)
  replace HB := Aside.mk (below_drew1 HB.out)
  generalize w2.drew = w3 at *
  have HB3 := Aside.mk HB.out.size
  refine ta_ 0 (bm 7 1) hHeld ?_
  refine pu_ 1 (bm 7 3) ?_
  refine ta_ 2 (bm 7 7) hHeld ?_
  refine one_ (i := 3) (N := some 8) (bm 7 15) rfl rfl (by kernel_rfl) (by decide) (fun K hK => ?_)
  refine Kd.R_make_step (Kd.int .i64) (w0 := w3) w3.heap.size 3 (by rfl) rfl 37 (.tmp 7) (.tmp 7) rfl cx.cap rfl rfl und_is (.int .i64 0) 8 inf_i rfl (by decide) (by decide) (0 : Int) (ok := fun _ => True) (okp := fun _ => False) (by exact rfl) (fun _ h => h.elim) trivial (by have := HCX.out.c64; omega) (by have := HCX.out.c64; omega) (Below.refl _ _) (Nat.le_refl _) ?_
  intro vn w4 hr hb hg hat
  obtain ⟨Al, cl, en⟩ := Kd.R_slice hr
  subst en
  clear hg hat
  rw [List.length_replicate] at hr
  have HR := Aside.mk hr
  replace HX := Aside.mk (blk_below HX.out hb)
  replace HB := Aside.mk (HB.out.trans (hb.mono HB.out.size))
  have HS3 := Aside.mk (show w.heap.size ≤ w3.heap.size ∧ w3.heap.size ≤ w4.heap.size from ⟨HB3.out, hb.size⟩)
  clear hr hb
  refine hK.out _ _ ⟨(blk_cell HX.out 0).trans rfl, (blk_cell HX.out 1).trans rfl, (blk_cell HX.out 2).trans rfl, (blk_cell HX.out 3).trans rfl, (blk_cell HX.out 4).trans rfl, (blk_cell HX.out 5).trans rfl, trivial⟩ (fun hHeld => ?_)
  rw [List.length_replicate]
  clear hK K
  refine norm_ (a' := ?_) ?_ ?_
  rotate_left
  · show Act.put _ (some 8) _ = _
    simp only [Act.put, List.setIfInBounds_toArray, List.set_cons_zero, List.set_cons_succ, i64_w, i32_w]
    rfl
  refine pu_ 4 (bm 7 31) ?_
  refine one_ (i := 5) (N := some 10) (bm 7 63) rfl rfl (by kernel_rfl) (by decide) (fun K hK => ?_)
  refine value_ (v := .pointer (some ⟨w4.heap.size, 0, none⟩)) (w1 := w4.alloc (.cells #[.int .i64 v, .int .i64 wd, .int .i64 cx.cap, .int .i64 (cx.prod : Int), .int .u64 sa, .slice A up.length C, .slice none 0 0, .slice Al cx.cap.toNat cl, .slice none 0 0] 79)) (by rfl) rfl ?_ ?_
  · go_simp
  have hb := below_alloc (Below.refl w4.heap.size w4) (.cells #[.int .i64 v, .int .i64 wd, .int .i64 cx.cap, .int .i64 (cx.prod : Int), .int .u64 sa, .slice A up.length C, .slice none 0 0, .slice Al cx.cap.toNat cl, .slice none 0 0] 79)
  have HRN := Aside.mk (show RN w0 w v wd sa A C up cx w4.heap.size Al cl none 0 0 (w4.alloc (.cells #[.int .i64 v, .int .i64 wd, .int .i64 cx.cap, .int .i64 (cx.prod : Int), .int .u64 sa, .slice A up.length C, .slice none 0 0, .slice Al cx.cap.toNat cl, .slice none 0 0] 79)) from
    have h2 := HR.out
    have hlo := Kd.R_base h2
    { b := HB.out.trans (hb.mono HB.out.size)
      x := blk_below HX.out hb
      o := { bt := ⟨_, heap_alloc_new w4 _⟩, bb := Nat.le_trans H0.out.size HB.out.size
             r := fun i x hi => by
               match i, hi with
               | 0, hi => injection hi with hi; subst hi; exact Kd.R_nil _ _ _ _ _
               | 1, hi => injection hi with hi; subst hi; exact Kd.R_lower (Kd.R_below h2 hb) (by have := H0.out.size; have := HS3.out; omega)
               | 2, hi => injection hi with hi; subst hi; exact Kd.R_nil _ _ _ _ _
               | n + 3, hi => cases hi
             E := fun i x hi => by
               match i, hi with
               | 0, hi => injection hi with hi; subst hi; exact ⟨rfl, show (123 : Nat) ≠ 79 by decide⟩
               | 1, hi => injection hi with hi; subst hi; exact ⟨rfl, show (3 : Nat) ≠ 79 by decide⟩
               | 2, hi => injection hi with hi; subst hi; exact ⟨rfl, show (81 : Nat) ≠ 79 by decide⟩
               | n + 3, hi => cases hi
             ne := fun i j x y q hij hi hj hq => by
               match i, hi with
               | 0, hi => injection hi with hi; subst hi; cases hq
               | 2, hi => injection hi with hi; subst hi; cases hq
               | n + 3, hi => cases hi
               | 1, hi =>
                 match j, hj with
                 | 0, hj => injection hj with hj; subst hj; exact fun e => nomatch e
                 | 1, hj => exact absurd rfl hij
                 | 2, hj => injection hj with hj; subst hj; exact fun e => nomatch e
                 | n + 3, hj => cases hj }
      bx := heap_alloc_new w4 _
      n := fun q hq => by
        rcases hq with e | ⟨i, x, hi, hq⟩
        · have := HB.out.size; omega
        · match i, hi with
          | 0, hi => injection hi with hi; subst hi; cases hq
          | 1, hi => injection hi with hi; subst hi; exact Nat.le_trans HS3.out.1 (hlo q hq)
          | 2, hi => injection hi with hi; subst hi; cases hq
          | n + 3, hi => cases hi })
  clear hb
  refine hK.out _ _ ⟨(blk_cell HRN.out.x 0).trans rfl, (blk_cell HRN.out.x 1).trans rfl, (blk_cell HRN.out.x 2).trans rfl, (blk_cell HRN.out.x 3).trans rfl, (blk_cell HRN.out.x 4).trans rfl, (blk_cell HRN.out.x 5).trans rfl, trivial⟩ (fun hHeld => ?_)
  clear hK K
  refine norm_ (a' := ?_) ?_ ?_
  rotate_left
  · show Act.put _ (some 10) _ = _
    simp only [Act.put, List.setIfInBounds_toArray, List.set_cons_zero, List.set_cons_succ, i64_w, i32_w]
    rfl
  refine pu_ 6 (bm 7 127) ?_
  refine done_ (by kernel_rfl) ?_
  clear hHeld HR HX HB HS3 HB3
  generalize w4.heap.size = B at *
  generalize w4.alloc (.cells #[.int .i64 v, .int .i64 wd, .int .i64 cx.cap, .int .i64 (cx.prod : Int), .int .u64 sa, .slice A up.length C, .slice none 0 0, .slice Al cx.cap.toNat cl, .slice none 0 0] 79) = w5 at *
  obtain ⟨nn, hnn⟩ : ∃ nn, nn = cx.prod + cx.up.length := ⟨_, rfl⟩
  have HNN := Aside.mk hnn
  have HN10 := Aside.mk (show nn ≤ 10 by have := HCX.out.p4; have := HCX.out.u6; omega)
  have HTH := Aside.mk (fun (W : World) (b : Below w.heap.size w W) => QSo.sakiaref10_Threads.calls v wd cx.cap cx.prod sa A C up (nn : Int) W (Kd.F_now (Kd.F_below HF.out b)) HCC.out (by unfold QSo.sakiaref10_Threads.f; rw [w64 (by have := HLEN.out; have := HCX.out.p4; have := HCX.out.u6; omega), HLEN.out, hnn]; congr 1))
  clear hnn
  obtain ⟨x0, x1, x2, x3, x4, x5⟩ := Mo.cell6 HRN.out.x
  go_upto_region 3 with (fail)
  clear x0 x1 x2 x3 x4 x5
  go_loopw [4] (fun x wr => ∃ j : Nat, x = .int .i64 (j : Int) ∧ j ≤ nn ∧ Mo.Aside (∃ Ah ch, RN w0 w v wd sa A C up cx B Al cl Ah j ch wr)) (fun x _ => nn - (intOf x).toNat)
  case atStart => exact ⟨0, rfl, Nat.zero_le _, ⟨none, 0, HRN.out⟩⟩
  case round =>
    clear HRN
    obtain ⟨j, rfl, hj, HR⟩ := hrel
    obtain ⟨Ah, ch, hrn⟩ := HR.out
    have HRN := Aside.mk hrn
    clear hrn HR
    obtain ⟨x0, x1, x2, x3, x4, x5⟩ := Mo.cell6 HRN.out.x
    go_wp2_with fail
    refine (HTH.out _ HRN.out.b).mono ?_
    rintro r w6 ⟨rfl, hb⟩
    replace HRN := Aside.mk (HRN.out.below hb)
    clear hb x0 x1 x2 x3 x4 x5
    by_cases hlt : j < nn
    rotate_left
    · obtain rfl : j = nn := by omega
      have t1 : decide ((j : Int) < (j : Int)) = false := decide_eq_false (by omega)
      have t2 : decide (j < j) = false := decide_eq_false (by omega)
      have HF2 := Aside.mk (show RN w0 w v wd sa A C up cx B Al cl Ah (cx.prod + cx.up.length) ch w6 from by rw [← HNN.out]; exact HRN.out)
      clear hj hlt
      go_wp2
      go_ret
      obtain ⟨k, hk, ho⟩ := HF2.out.rm HCX.out HCK.out HU.out HSM.out HCC.out HF.out
      exact ⟨⟨B, k, rfl, hk, ho, HF2.out.b⟩⟩
    have HJ := Aside.mk hlt
    have t1 : decide ((j : Int) < (nn : Int)) = true := decide_eq_true (by omega)
    have t2 : decide (j < nn) = true := decide_eq_true hlt
    have t3 : (j : Int) < (nn : Int) := by omega
    have ej := i1 (show j < 4611686018427387904 by have := HN10.out; omega)
    obtain ⟨bp, hbp⟩ : ∃ b : Bool, b = decide (j < cx.prod) := ⟨_, rfl⟩
    have HBP := Aside.mk hbp
    have p1 : decide ((j : Int) < (cx.prod : Int)) = bp := by rw [hbp]; exact decide_eq_decide.2 (by omega)
    have p2 : decide (j < cx.prod) = bp := hbp.symm
    clear hj hlt hbp
    go_upto_region 5 with (fail)
    clear t1 t2 t3
    refine start_ (n := 17) (S := fun w' => w'.cell? ⟨w.heap.size, 2, none⟩ = some (.int .i64 cx.cap) ∧ w'.cell? ⟨w.heap.size, 3, none⟩ = some (.int .i64 (cx.prod : Int)) ∧ w'.cell? ⟨B, 8, none⟩ = some (.slice Ah j ch) ∧ True) (ds := [16]) (bm 17 0) (by kernel_rfl) rfl rfl ⟨(blk_cell (HRN.out.below (below_drew1 (Below.refl _ _))).x 2).trans rfl, (blk_cell (HRN.out.below (below_drew1 (Below.refl _ _))).x 3).trans rfl, (blk_cell (HRN.out.below (below_drew1 (Below.refl _ _))).bx 8).trans rfl, trivial⟩ (fun hHeld => ?_)
    replace HRN := Aside.mk (HRN.out.below (below_drew1 (Below.refl _ _)))
    generalize w6.drew = w7 at *
    refine pu_ 0 (bm 17 1) ?_
    refine pu_ 1 (bm 17 3) ?_
    refine pu_ 2 (bm 17 7) ?_
    refine pu_ 3 (bm 17 15) ?_
    refine ta_ 4 (bm 17 31) hHeld ?_
    refine pu_ 5 (bm 17 63) ?_
    refine ta_ 6 (bm 17 127) hHeld ?_
    refine pu_ 7 (bm 17 255) ?_
    refine pu_ 8 (bm 17 511) ?_
    refine ta_ 9 (bm 17 1023) hHeld ?_
    refine pu_ 10 (bm 17 2047) ?_
    refine pu_ 11 (bm 17 4095) ?_
    refine one_ (i := 12) (N := some 29) (bm 17 8191) rfl rfl (by kernel_rfl) (by decide) (fun K hK => ?_)
    refine value_ (v := .slice (some ⟨w7.heap.size, 0, none⟩) 1 1) (w1 := w7.alloc (.cells #[.int .i64 cx.cap, .bool bp, .bool false, .int .u64 0, .int .i64 0, .int .i64 0, .int .i64 0] 81)) (by rfl) rfl ?_ ?_
    · go_simp
    have hcb := HRN.out.below (below_alloc (Below.refl w7.heap.size w7) (.cells #[.int .i64 cx.cap, .bool bp, .bool false, .int .u64 0, .int .i64 0, .int .i64 0, .int .i64 0] 81))
    refine hK.out _ _ ⟨(blk_cell hcb.x 2).trans rfl, (blk_cell hcb.x 3).trans rfl, (blk_cell hcb.bx 8).trans rfl, trivial⟩ (fun hHeld => ?_)
    clear hcb
    clear hK K
    refine norm_ (a' := ?_) ?_ ?_
    rotate_left
    · show Act.put _ (some 29) _ = _
      simp only [Act.put, List.setIfInBounds_toArray, List.set_cons_zero, List.set_cons_succ, i64_w, i32_w]
      rfl
    refine one_ (i := 13) (N := some 30) (bm 17 16383) rfl rfl (by kernel_rfl) (by decide) (fun K hK => ?_)
    have HPE := Aside.mk (show hR cx (st0 cx) j = [.int .i64 cx.cap, .bool bp, .bool false, .int .u64 0, .int .i64 0, .int .i64 0, .int .i64 0] by rw [hR0, ← HBP.out])
    refine Kd.R_append_step (Kd.raw 7) (w0 := w7) w0.heap.size (by rfl) (.tmp 21) (.tmp 29) 77 81 (.agg #[.int .i64 0, .bool false, .bool false, .int .u64 0, .int .i64 0, .int .i64 0, .int .i64 0]) 48 rfl und_hh inf_hh rfl (by decide) (by decide) (.slice Ah j ch) ((List.range j).map (hR cx (st0 cx))) [.int .i64 cx.cap, .bool bp, .bool false, .int .u64 0, .int .i64 0, .int .i64 0, .int .i64 0] [.int .i64 cx.cap, .bool bp, .bool false, .int .u64 0, .int .i64 0, .int .i64 0, .int .i64 0] (fun _ => True) (fun _ => False) rfl rfl ⟨rfl, rfl, one7⟩ (fun _ h => h.elim) (fun _ _ => trivial) (HRN.out.o.r 2 _ rfl) (Below.refl _ _) (Nat.le_trans H0.out.size HRN.out.b.size) (by rw [List.length_map, List.length_range]; have := HJ.out; have := HN10.out; omega) ?_
    intro v1 wn hr hz1 hg hat
    clear hz1
    obtain ⟨A2, C2, ev⟩ := Kd.R_slice hr
    have hlj : ∀ l : List (List Value), l.length = j → ∀ x, (l ++ [x]).length = j + 1 := fun l hl x => by rw [List.length_append, hl]; rfl
    rw [hlj _ (by rw [List.length_map, List.length_range])] at ev
    subst ev
    clear hlj
    rw [← HPE.out] at hr
    have HRN2 := Aside.mk (HRN.out.grow hr hg hat)
    have hbx := blk_grown HRN.out.bx hg (fun e => HRN.out.o.box_ne (i := 2) rfl e.symm rfl)
    have hxx := blk_grown HRN.out.x hg (fun e => (Kd.R_ne (HRN.out.o.r 2 _ rfl) HRN.out.x (show (81 : Nat) ≠ 25 by decide)) e)
    clear hr hg hat HPE
    refine hK.out _ _ ⟨(blk_cell hxx 2).trans rfl, (blk_cell hxx 3).trans rfl, (blk_cell hbx 8).trans rfl, trivial⟩ (fun hHeld => ?_)
    clear hK K
    refine norm_ (a' := ?_) ?_ ?_
    rotate_left
    · show Act.put _ (some 30) _ = _
      simp only [Act.put, List.setIfInBounds_toArray, List.set_cons_zero, List.set_cons_succ, i64_w, i32_w]
      rfl
    refine pu_ 14 (bm 17 32767) ?_
    refine pu_ 15 (bm 17 65535) ?_
    have c8 := (blk_cell hbx 8).trans rfl
    have f8 := blk_frozen hbx 8
    clear hbx hxx
    refine last_ (i := 16) (N := none) (bm 17 131071) rfl rfl (by kernel_rfl) (by decide) (fun K hK => ?_)
    refine skip_ (w1 := ?_) (by rfl) rfl ?_ ?_
    rotate_left
    · go_simp
      rfl
    refine hK.out _ _ ?_
    clear hK K
    refine done_ (by kernel_rfl) ?_
    clear hHeld c8 f8 HRN p1 p2
    generalize wn.setCell ⟨B, 8, none⟩ (.slice A2 (j + 1) C2) = w9 at *
    go_wp2_with fail
    go_roundw
    case rel => exact ⟨j + 1, by first | rfl | simp, HJ.out, ⟨A2, C2, HRN2.out⟩⟩
    case measure =>
      simp only [intOf, tn1, Int.toNat_natCast]
      exact meas1 HJ.out
end Go.Proofs.YtgibmlbdkijflaaDoor.So
