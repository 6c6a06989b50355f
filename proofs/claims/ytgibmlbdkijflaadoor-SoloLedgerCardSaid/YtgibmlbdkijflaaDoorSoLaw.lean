/- SoloLedger, walked. -/
import Derived.Test.YtgibmlbdkijflaaDoorSoSeven
set_option linter.unusedVariables false
set_option linter.unusedSimpArgs false
set_option maxRecDepth 100000
namespace Go.Proofs.YtgibmlbdkijflaaDoor.So
open Go.RowKit Go.Proofs.YtgibmlbdkijflaaDoorW.PrintWords Go.Proofs.YtgibmlbdkijflaaDoorW.PrintLast Go.Proofs.YtgibmlbdkijflaaDoorW.PrintMore
open Ow
open Mo (Aside Cx U64 I64 ints least run cutW plusW New below_low tn1 meas1 w64 i1 wrapE)
open QGc (checkC)
open Graph (checkG Gv)
open Mo (Ev CxOk)
open Graph (Tabled)
open QSo (S41 S39 k41)
structure BB (w : World) (cv : Array Value) (B Br : Nat) (k : Lk) (kr : Rk) (cx : Cx) (lp : Lp) (st st' : Ls) (j j' : Nat) (W : World) : Prop where
  l : Lm w.heap.size W B k cx lp st j
  r : Rm w.heap.size W Br kr cx lp st' j'
  d : ∀ q, OwnB (rowsL k st) B q → ¬ OwnB (rowsR kr cx st') Br q
  g : ∀ q, OwnB (rowsR kr cx st') Br q → cx.lim ≤ q
  b : Below w.heap.size w W
  x : W.heap[w.heap.size]? = some (.cells cv 25 (0, 0))
section
variable {w W W1 : World} {cv : Array Value} {B Br : Nat} {k : Lk} {kr : Rk} {cx : Cx} {lp : Lp} {st st' st1 : Ls} {j j' j1 : Nat}
theorem BB.below (h : BB w cv B Br k kr cx lp st st' j j' W) (b : Below W.heap.size W W1) : BB w cv B Br k kr cx lp st st' j j' W1 :=
  { h with l := h.l.below b, r := h.r.below b, b := h.b.trans (b.mono h.b.size), x := blk_below h.x b }
theorem BB.next (h : BB w cv B Br k kr cx lp st st' j j' W) (hi : j < 1000) (hi' : j' < 1000) : BB w cv B Br k kr cx lp st st' (j + 1) (j' + 1) W :=
  { h with l := { h.l with wf := h.l.wf.mono (Nat.le_succ _), i := hi }, r := { h.r with wf := h.r.wf.mono (Nat.le_succ _), i := hi' } }
theorem BB.doL (h : BB w cv B Br k kr cx lp st st' j j' W) (p : LPost w W B k cx lp st st1 j1 W1) : ∃ k1, BB w cv B Br k1 kr cx lp st1 st' j1 j' W1 ∧ TK w W W1 (OwnB (rowsL k st) B) := by
  obtain ⟨k1, h1, t, n, _⟩ := p
  refine ⟨k1, { l := h1, r := h.r.move (fun q hq ho => ?_), d := fun q hq => ?_, g := h.g, b := t.b, x := TK.box t h.l h.x (by decide) }, t⟩
  · refine t.p q hq (fun hl => ?_)
    rcases ho with ho | ho
    · exact h.d q hl ho
    · have := h.l.x.ge hl; omega
  · rcases n q hq with h2 | h2
    · exact h.d q h2
    · intro ho; have := h.r.x.lt ho; omega
theorem BB.doR (h : BB w cv B Br k kr cx lp st st' j j' W) (p : RPost w W Br kr cx lp st' st1 j1 W1) : ∃ k1, BB w cv B Br k k1 cx lp st st1 j j1 W1 ∧ TK w W W1 (OwnB (rowsR kr cx st') Br) := by
  obtain ⟨k1, h1, t, n, _⟩ := p
  refine ⟨k1, { l := h.l.move (fun q hq ho => ?_), r := h1, d := fun q hq ho => ?_, g := fun q hq => ?_, b := t.b, x := TKR.box t h.r h.x (by decide) }, t⟩
  · refine t.p q hq (fun hr => ?_)
    rcases ho with ho | ho
    · exact h.d q ho hr
    · have := h.g q hr; omega
  · rcases n q ho with h2 | h2
    · exact h.d q hq h2
    · have := h.l.x.lt hq; omega
  · rcases n q hq with h2 | h2
    · exact h.g q h2
    · have := h.l.lb; have := blk_lt h.l.b; omega
theorem BB.set (h : BB w cv B Br k kr cx lp st st' j j' W) {g t : Nat} {cs : Array Value} (hb : W.heap[g]? = some (.cells cs t (0, 0))) (ht : (t ≠ 74 ∧ t ≠ 4 ∧ t ≠ 3 ∧ t ≠ 114) ∧ t ≠ 79 ∧ t ≠ 123 ∧ t ≠ 3 ∧ t ≠ 81) (hg : w.heap.size < g ∧ cx.lim ≤ g) (i : Nat) (u : Value) : BB w cv B Br k kr cx lp st st' j j' (W.setCell ⟨g, i, none⟩ u) := by
  have hl : ¬ OwnB (rowsL k st) B g := h.l.x.no hb ht.1.1 (rows_e k st t ht.1.2)
  have hr : ¬ OwnB (rowsR kr cx st') Br g := h.r.x.no hb ht.2.1 (rowsR_e kr cx st' t ht.2.2)
  refine { h with l := h.l.move (fun q _ ho => Below.heap_setCell W ⟨g, i, none⟩ u q ?_), r := h.r.move (fun q _ ho => Below.heap_setCell W ⟨g, i, none⟩ u q ?_), b := h.b.setCell (Nat.le_of_lt hg.1) u, x := blk_far h.x (p := ⟨g, i, none⟩) (Nat.ne_of_lt hg.1) u }
  · show q ≠ g
    intro e
    rw [e] at ho
    rcases ho with ho | ho
    · exact hl ho
    · omega
  · show q ≠ g
    intro e
    rw [e] at ho
    rcases ho with ho | ho
    · exact hr ho
    · omega
theorem BB.set3 (h : BB w cv B Br k kr cx lp st st' j j' W) {g : Nat} {a0 a1 a2 : Value} (hb : W.heap[g]? = some (.cells #[a0, a1, a2] 39 (0, 0))) (hg : w.heap.size < g ∧ cx.lim ≤ g) (v0 v1 v2 : Value) : ∃ W', W' = (((W.setCell ⟨g, 0, none⟩ v0).setCell ⟨g, 1, none⟩ v1).setCell ⟨g, 2, none⟩ v2) ∧ BB w cv B Br k kr cx lp st st' j j' W' ∧ W'.heap[g]? = some (.cells #[v0, v1, v2] 39 (0, 0)) := by
  have ht : (39 ≠ 74 ∧ 39 ≠ 4 ∧ 39 ≠ 3 ∧ 39 ≠ 114) ∧ 39 ≠ 79 ∧ 39 ≠ 123 ∧ 39 ≠ 3 ∧ 39 ≠ 81 := by decide
  have k0 := blk_put (cs' := #[v0, a1, a2]) hb 0 v0 rfl
  have k1 := blk_put (cs' := #[v0, v1, a2]) k0 1 v1 rfl
  have k2 := blk_put (cs' := #[v0, v1, v2]) k1 2 v2 rfl
  exact ⟨_, rfl, ((h.set hb ht hg 0 v0).set k0 ht hg 1 v1).set k1 ht hg 2 v2, k2⟩
end
set_option maxHeartbeats 32000000 in
theorem walkLedger (w : World) (v wd cp pr sa : Int) (A0 : Option Addr) (C0 : Nat) (up : List (List Int)) (hr0 : Kd.C (Kd.slice 3 (Kd.int .i64)) w A0 up.length up) (hC0 : up.length ≤ C0) (hu : U64 sa) (A : Option Addr) (C : Nat) (l : List S41) (hr : Kd.C k41 w A l.length l) (hC : l.length ≤ C) (hT : Tabled w) :
    Calls Tryd.prog 3 #[.agg #[.int .i64 v, .int .i64 wd, .int .i64 cp, .int .i64 pr, .int .u64 sa, .slice A0 up.length C0], .slice A l.length C] w fun r W => Yes w W r := by
  have hb0 := below_alloc (Below.refl w.heap.size w) (.cells #[.int .i64 v, .int .i64 wd, .int .i64 cp, .int .i64 pr, .int .u64 sa, .slice A0 up.length C0] 25)
  have HX := Aside.mk (heap_alloc_new w (.cells #[.int .i64 v, .int .i64 wd, .int .i64 cp, .int .i64 pr, .int .u64 sa, .slice A0 up.length C0] 25))
  have HT := Aside.mk hT
  have HU := Aside.mk hu
  have HF0 := Aside.mk (Kd.C_F (Kd.heap_slice 3 (Kd.heap_int .i64)) hr0)
  have HC0 := Aside.mk hC0
  obtain ⟨bs, hbs⟩ := acts_of hr
  have HAC := Aside.mk hbs
  obtain ⟨b, hsm, hlong⟩ := long26 100 (by omega) v wd cp pr sa (Kd.C_below hr hb0) hC (Kd.C_below hr0 hb0) hC0
  have HSM := Aside.mk hsm
  have HLG := Aside.mk hlong
  rw [show ((100 : Nat) : Int) = 100 from rfl] at HLG
  have HB := Aside.mk hb0
  clear hr0 hC0 hu hr hC hT hb0 hbs hsm hlong
  go_enter Tryd.func3, Tryd.ntmps3
  go_upto_region 1 with (fail)
  generalize w.alloc (.cells #[.int .i64 v, .int .i64 wd, .int .i64 cp, .int .i64 pr, .int .u64 sa, .slice A0 up.length C0] 25) = w2 at *
  obtain ⟨x0, x1, x2, x3, x4, x5⟩ := Mo.cell6 HX.out
  go_wp2_with fail
  refine HLG.out.mono ?_
  rintro r w3 ⟨rfl, hb⟩
  replace HB := Aside.mk (HB.out.trans (hb.mono HB.out.size))
  replace HX := Aside.mk (blk_below HX.out hb)
  clear hb HLG x0 x1 x2 x3 x4 x5
  cases b with
  | true =>
    clear HSM
    go_wp2_with fail
    refine (live_ w3 (HT.out.below HB.out)).mono ?_
    rintro r w4 ⟨rfl, hb⟩
    replace HB := Aside.mk (HB.out.trans (hb.mono HB.out.size))
    clear hb
    go_wp2
    go_ret
    exact ⟨rfl, HB.out⟩
  | false =>
  have HSA := Aside.mk (HSM.out rfl).1
  have HSU := Aside.mk (HSM.out rfl).2
  clear HSM
  obtain ⟨x0, x1, x2, x3, x4, x5⟩ := Mo.cell6 HX.out
  have HGV := Aside.mk (fun (W : World) (b : Below w.heap.size w W) => show Gv W A0 C0 up from ⟨Kd.F_now (Kd.F_below HF0.out b), HC0.out, HSU.out⟩)
  have HRC := Aside.mk (fun (W : World) (b : Below w.heap.size w W) => rcheck10 (v := v) (wd := wd) (cp := cp) (pr := pr) (sa := sa) (HGV.out W b))
  by_cases hck : checkC v wd cp pr up = 0
  rotate_left
  · -- no ledger
    have HN := Aside.mk (pnew_no w3 v wd cp pr sa A0 C0 up (HGV.out _ HB.out) hck)
    have HBP := Aside.mk (show boundP v wd cp pr up = 0 by unfold boundP; rw [if_neg hck])
    have HPB := Aside.mk (fun (W : World) (b : Below w.heap.size w W) => pbound (v := v) (wd := wd) (cp := cp) (pr := pr) (sa := sa) (HGV.out W b))
    rw [HBP.out] at HPB
    have t1 : (checkC v wd cp pr up != 0) = true := by simpa using hck
    have t2 : (checkC v wd cp pr up == 0) = false := by simpa using hck
    generalize checkC v wd cp pr up = code at *
    clear hck
    go_wp2_with fail
    refine HN.out.mono ?_
    rintro r w4 ⟨rfl, hb⟩
    replace HB := Aside.mk (HB.out.trans (hb.mono HB.out.size))
    replace HX := Aside.mk (blk_below HX.out hb)
    clear hb x0 x1 x2 x3 x4 x5 HN
    obtain ⟨x0, x1, x2, x3, x4, x5⟩ := Mo.cell6 HX.out
    go_wp2_with fail
    refine (HRC.out _ HB.out).mono ?_
    rintro r w5 ⟨rfl, hb⟩
    replace HB := Aside.mk (HB.out.trans (hb.mono HB.out.size))
    replace HX := Aside.mk (blk_below HX.out hb)
    clear hb x0 x1 x2 x3 x4 x5
    obtain ⟨x0, x1, x2, x3, x4, x5⟩ := Mo.cell6 HX.out
    go_wp2_with fail
    refine (HPB.out _ HB.out).mono ?_
    rintro r w6 ⟨rfl, hb⟩
    replace HB := Aside.mk (HB.out.trans (hb.mono HB.out.size))
    clear hb x0 x1 x2 x3 x4 x5
    go_wp2_with fail
    refine (live_ w6 (HT.out.below HB.out)).mono ?_
    rintro r w7 ⟨rfl, hb⟩
    replace HB := Aside.mk (HB.out.trans (hb.mono HB.out.size))
    clear hb
    go_wp2
    go_ret
    exact ⟨rfl, HB.out⟩
  -- there is one
  have HCK := Aside.mk hck
  have HCX := Aside.mk (Mo.cxOf_ok (sa := sa) HSU.out hck)
  have HN := Aside.mk (pnew w w3 HB.out v wd cp pr sa A0 C0 up (HGV.out _ HB.out) hck HU.out (HT.out.below HB.out) (Mo.cxOf wd cp pr sa up) HCX.out)
  generalize Mo.cxOf wd cp pr sa up = cx0 at *
  rw [hck] at HRC
  clear hck
  go_wp2_with fail
  refine HN.out.mono ?_
  rintro r w4 ⟨⟨B, k, rfl, hLm, hown, hb⟩⟩
  have HCXB := Aside.mk (HCX.out.lim B)
  have HLIM := Aside.mk (show ({ cx0 with lim := B } : Cx).lim = B from rfl)
  rw [show st0 cx0 = st0 { cx0 with lim := B } from rfl] at hLm hown
  clear HCX
  generalize { cx0 with lim := B } = cx at *
  have HL := Aside.mk hLm
  have HSZ3 := Aside.mk (show w.heap.size ≤ w3.heap.size from HB.out.size)
  replace HB := Aside.mk (HB.out.trans (hb.mono HB.out.size))
  replace HX := Aside.mk (blk_below HX.out hb)
  clear hb hLm hown x0 x1 x2 x3 x4 x5 HN
  obtain ⟨x0, x1, x2, x3, x4, x5⟩ := Mo.cell6 HX.out
  go_wp2_with fail
  refine (HRC.out _ HB.out).mono ?_
  rintro r w5 ⟨rfl, hb⟩
  replace HB := Aside.mk (HB.out.trans (hb.mono HB.out.size))
  replace HX := Aside.mk (blk_below HX.out hb)
  replace HL := Aside.mk (HL.out.below hb)
  clear hb x0 x1 x2 x3 x4 x5
  obtain ⟨x0, x1, x2, x3, x4, x5⟩ := Mo.cell6 HX.out
  have HRN := Aside.mk (rnew w w5 HB.out v wd cp pr sa A0 C0 up (Kd.F_below HF0.out HB.out) HC0.out HSU.out HCK.out HU.out cx HCXB.out)
  go_wp2_with fail
  refine HRN.out.mono ?_
  rintro r w6 ⟨⟨Br, kr, rfl, hRm, hown, hb⟩⟩
  have HBB := Aside.mk (show BB w _ B Br k kr cx (lpOf wd sa cp) (st0 cx) (st0 cx) 0 0 w6 from
    { l := HL.out.below hb, r := hRm, d := fun q hq ho => by have := HL.out.x.lt hq; have := hown q ho; omega, g := fun q hq => by rw [HLIM.out]; have := blk_lt HL.out.b; have := hown q hq; omega, b := HB.out.trans (hb.mono HB.out.size), x := blk_below HX.out hb })
  clear hb hRm hown x0 x1 x2 x3 x4 x5 HRN HL HB HX HRC HLIM
  generalize lpOf wd sa cp = lp at *
  have HEI := Aside.mk (show Graph.endsI (cx.up.map ints) = ints cx.ends by rw [← HCXB.out.uq]; exact HCXB.out.ends)
  have HACT := Aside.mk (fun (W : World) (b : Below w.heap.size w W) => HAC.out W (fun q hq => b.block q hq))
  go_wp2_with fail
  go_loopw [8] (fun x wr => ∃ j : Nat, x = .int .i64 (j : Int) ∧ j ≤ l.length ∧ Mo.Aside (∃ k kr st, BB w #[.int .i64 v, .int .i64 wd, .int .i64 cp, .int .i64 pr, .int .u64 sa, .slice A0 up.length C0] B Br k kr cx lp st st j j wr)) (fun x _ => l.length - (intOf x).toNat)
  case atStart => exact ⟨0, rfl, Nat.zero_le _, ⟨k, kr, st0 cx, HBB.out⟩⟩
  case round =>
    clear HBB
    obtain ⟨j, rfl, hj, HR⟩ := hrel
    obtain ⟨k, kr, st, hbb⟩ := HR.out
    have HBB := Aside.mk hbb
    clear hbb HR
    by_cases hlt : j < l.length
    rotate_left
    · obtain rfl : j = l.length := by omega
      have t1 : decide ((l.length : Int) < (l.length : Int)) = false := decide_eq_false (by omega)
      have t2 : decide (l.length < l.length) = false := decide_eq_false (by omega)
      clear hj hlt
      obtain ⟨x0, x1, x2, x3, x4, x5⟩ := Mo.cell6 HBB.out.x
      go_upto_region 26 with (fail)
      clear t1 t2 x0 x1 x2 x3 x4 x5
      have HX := Aside.mk HBB.out.x
      have HB := Aside.mk HBB.out.b
      clear HBB
      refine start_ (n := 9) (S := fun w' => w'.cell? ⟨w.heap.size, 0, none⟩ = some (.int .i64 v) ∧ w'.cell? ⟨w.heap.size, 1, none⟩ = some (.int .i64 wd) ∧ w'.cell? ⟨w.heap.size, 2, none⟩ = some (.int .i64 cp) ∧ w'.cell? ⟨w.heap.size, 3, none⟩ = some (.int .i64 pr) ∧ w'.cell? ⟨w.heap.size, 4, none⟩ = some (.int .u64 sa) ∧ w'.cell? ⟨w.heap.size, 5, none⟩ = some (.slice A0 up.length C0) ∧ True) (ds := []) (bm 9 0) (by kernel_rfl) rfl rfl ⟨(blk_cell (blk_drew HX.out) 0).trans rfl, (blk_cell (blk_drew HX.out) 1).trans rfl, (blk_cell (blk_drew HX.out) 2).trans rfl, (blk_cell (blk_drew HX.out) 3).trans rfl, (blk_cell (blk_drew HX.out) 4).trans rfl, (blk_cell (blk_drew HX.out) 5).trans rfl, trivial⟩ (fun hHeld => ?_)
      have hb := below_drew1 (Below.refl wr.heap.size wr)
      replace HX := Aside.mk (blk_below HX.out hb)
      replace HB := Aside.mk (HB.out.trans (hb.mono HB.out.size))
      clear hb
      generalize wr.drew = w7 at *
      have HBP := Aside.mk (show boundP v wd cp pr up = boundL cp up.length by unfold boundP; rw [if_pos HCK.out])
      have HPB := Aside.mk (fun (W : World) (b : Below w.heap.size w W) => pbound (v := v) (wd := wd) (cp := cp) (pr := pr) (sa := sa) (HGV.out W b))
      rw [HBP.out] at HPB
      refine ta_ 0 (bm 9 1) hHeld ?_
      refine ta_ 2 (bm 9 5) hHeld ?_
      refine one_ (i := 1) (N := some 123) (bm 9 7) rfl rfl (by kernel_rfl) (by decide) (fun K hK => ?_)
      refine goes_ Tryd.func10 (by kernel_rfl) rfl #[.agg #[.int .i64 v, .int .i64 wd, .int .i64 cp, .int .i64 pr, .int .u64 sa, .slice A0 up.length C0]] (by rfl) rfl rfl (by (try simp only [List.map_toArray, List.map_cons, List.map_nil]); first | done | rfl) ?_
      refine (HPB.out _ HB.out).mono ?_
      rintro q w8 ⟨rfl, hb⟩
      refine ⟨_, rfl, ?_⟩
      replace HX := Aside.mk (blk_below HX.out hb)
      replace HB := Aside.mk (HB.out.trans (hb.mono HB.out.size))
      clear hb
      refine hK.out _ _ ⟨(blk_cell HX.out 0).trans rfl, (blk_cell HX.out 1).trans rfl, (blk_cell HX.out 2).trans rfl, (blk_cell HX.out 3).trans rfl, (blk_cell HX.out 4).trans rfl, (blk_cell HX.out 5).trans rfl, trivial⟩ (fun hHeld => ?_)
      clear hK K
      refine norm_ (a' := ?_) ?_ ?_
      rotate_left
      · show Act.put _ (some 123) _ = _
        simp only [Act.put, List.setIfInBounds_toArray, List.set_cons_zero, List.set_cons_succ, i64_w, i32_w]
        rfl
      refine one_ (i := 3) (N := some 125) (bm 9 15) rfl rfl (by kernel_rfl) (by decide) (fun K hK => ?_)
      refine goes_ Tryd.func18 (by kernel_rfl) rfl #[.agg #[.int .i64 v, .int .i64 wd, .int .i64 cp, .int .i64 pr, .int .u64 sa, .slice A0 up.length C0]] (by rfl) rfl rfl (by (try simp only [List.map_toArray, List.map_cons, List.map_nil]); first | done | rfl) ?_
      refine (rbound (HGV.out _ HB.out)).mono ?_
      rintro q w9 ⟨rfl, hb⟩
      refine ⟨_, rfl, ?_⟩
      replace HX := Aside.mk (blk_below HX.out hb)
      replace HB := Aside.mk (HB.out.trans (hb.mono HB.out.size))
      clear hb
      refine hK.out _ _ ⟨(blk_cell HX.out 0).trans rfl, (blk_cell HX.out 1).trans rfl, (blk_cell HX.out 2).trans rfl, (blk_cell HX.out 3).trans rfl, (blk_cell HX.out 4).trans rfl, (blk_cell HX.out 5).trans rfl, trivial⟩ (fun hHeld => ?_)
      clear hK K
      refine norm_ (a' := ?_) ?_ ?_
      rotate_left
      · show Act.put _ (some 125) _ = _
        simp only [Act.put, List.setIfInBounds_toArray, List.set_cons_zero, List.set_cons_succ, i64_w, i32_w]
        rfl
      generalize boundL cp up.length = bl at *
      refine pu_ 4 (bm 9 31) ?_
      refine pu_ 5 (bm 9 63) ?_
      refine one_ (i := 6) (N := some 128) (bm 9 127) rfl rfl (by kernel_rfl) (by decide) (fun K hK => ?_)
      refine goes_ Tryd.func7 (by kernel_rfl) rfl #[] (by rfl) rfl rfl (by (try simp only [List.map_toArray, List.map_cons, List.map_nil]); first | done | rfl) ?_
      refine (live_ _ (HT.out.below HB.out)).mono ?_
      rintro q w10 ⟨rfl, hb⟩
      refine ⟨_, rfl, ?_⟩
      replace HX := Aside.mk (blk_below HX.out hb)
      replace HB := Aside.mk (HB.out.trans (hb.mono HB.out.size))
      clear hb
      refine hK.out _ _ ⟨(blk_cell HX.out 0).trans rfl, (blk_cell HX.out 1).trans rfl, (blk_cell HX.out 2).trans rfl, (blk_cell HX.out 3).trans rfl, (blk_cell HX.out 4).trans rfl, (blk_cell HX.out 5).trans rfl, trivial⟩ (fun hHeld => ?_)
      clear hK K
      refine norm_ (a' := ?_) ?_ ?_
      rotate_left
      · show Act.put _ (some 128) _ = _
        simp only [Act.put, List.setIfInBounds_toArray, List.set_cons_zero, List.set_cons_succ, i64_w, i32_w]
        rfl
      refine pu_ 7 (bm 9 255) ?_
      refine pu_ 8 (bm 9 511) ?_
      refine done_ (by kernel_rfl) ?_
      clear hHeld
      go_wp2
      go_ret
      exact ⟨rfl, HB.out⟩
    have HJ := Aside.mk hlt
    have HJ1 := Aside.mk (show j < 1000 by have := HSA.out.1; omega)
    have t1 : decide ((j : Int) < (l.length : Int)) = true := decide_eq_true (by omega)
    have t2 : decide (j < l.length) = true := decide_eq_true hlt
    have t3 : (j : Int) < (l.length : Int) := by omega
    have ej := i1 (show j < 4611686018427387904 by have := HJ1.out; omega)
    obtain ⟨ad, eA, c0, c1, c2, c3, hcl, hcd⟩ := HACT.out wr HBB.out.b j hlt
    subst eA
    clear hj
    have HCD := Aside.mk (show ∀ W : World, Below w.heap.size w W → Kd.F (Kd.int .i64) W (fun q => q < w.heap.size) (bs j).1 l[j].f1.f2.length l[j].f1.f2 from fun W b => by obtain ⟨_, _, _, _, _, _, _, h⟩ := HACT.out W b j hlt; exact h)
    generalize hxj : l[j] = xj at *
    obtain ⟨tj, op, cn, cd⟩ := xj
    clear hxj hlt hcd
    simp only at c0 c1 c2 c3 hcl HCD
    have HCL := Aside.mk hcl
    generalize (bs j).1 = Ad at *
    generalize (bs j).2 = Cd at *
    clear hcl
    go_upto_region 12 with (fail)
    have HS := Aside.mk (show ∀ W : World, Below wr.heap.size wr W → W.cell? (ad.add (j * 4)) = some (.int .i64 tj) ∧ W.cell? ⟨(ad.add (j * 4)).block, (ad.add (j * 4)).off + 1, none⟩ = some (.int .i64 op) ∧ W.cell? ⟨(ad.add (j * 4)).block, (ad.add (j * 4)).off + 2, none⟩ = some (.int .i64 cn) ∧ W.cell? ⟨(ad.add (j * 4)).block, (ad.add (j * 4)).off + 3, none⟩ = some (.slice Ad cd.length Cd) ∧ True from fun W hb => by
      have go : ∀ {p : Addr} {v : Value}, wr.cell? p = some v → W.cell? p = some v := fun hp => (hb.cell (World.block_lt_of_cell? _ _ hp)).trans hp
      exact ⟨go c0, go c1, go c2, go c3, trivial⟩)
    clear c0 c1 c2 c3
    refine start_ (n := 13) (S := fun w' => w'.cell? (ad.add (j * 4)) = some (.int .i64 tj) ∧ w'.cell? ⟨(ad.add (j * 4)).block, (ad.add (j * 4)).off + 1, none⟩ = some (.int .i64 op) ∧ w'.cell? ⟨(ad.add (j * 4)).block, (ad.add (j * 4)).off + 2, none⟩ = some (.int .i64 cn) ∧ w'.cell? ⟨(ad.add (j * 4)).block, (ad.add (j * 4)).off + 3, none⟩ = some (.slice Ad cd.length Cd) ∧ True) (ds := [12]) (bm 13 0) (by kernel_rfl) rfl rfl (HS.out _ (below_drew1 (Below.refl _ _))) (fun hHeld => ?_)
    have HB2 := Aside.mk (below_drew1 (Below.refl wr.heap.size wr))
    replace HBB := Aside.mk (HBB.out.below HB2.out)
    generalize wr.drew = w7 at *
    refine pu_ 0 (bm 13 1) ?_
    refine pu_ 1 (bm 13 3) ?_
    refine pu_ 2 (bm 13 7) ?_
    refine pu_ 3 (bm 13 15) ?_
    refine ta_ 4 (bm 13 31) hHeld ?_
    refine pu_ 5 (bm 13 63) ?_
    refine pu_ 6 (bm 13 127) ?_
    refine pu_ 7 (bm 13 255) ?_
    refine pu_ 8 (bm 13 511) ?_
    refine ta_ 9 (bm 13 1023) hHeld ?_
    have HGC := Aside.mk (show w.heap.size < w7.heap.size ∧ cx.lim ≤ w7.heap.size from ⟨blk_lt HBB.out.x, by have := HBB.out.l.lb; have := blk_lt HBB.out.l.b; omega⟩)
    refine one_ (i := 10) (N := some 10) (bm 13 2047) rfl rfl (by kernel_rfl) (by decide) (fun K hK => ?_)
    refine value_ (v := .pointer (some ⟨w7.heap.size, 0, none⟩)) (w1 := w7.alloc (.cells #[.int .i64 0, .int .i64 0, .slice none 0 0] 39)) (by rfl) rfl ?_ ?_
    · go_simp
    have hb := below_alloc (Below.refl w7.heap.size w7) (.cells #[.int .i64 0, .int .i64 0, .slice none 0 0] 39)
    have HK := Aside.mk (heap_alloc_new w7 (.cells #[.int .i64 0, .int .i64 0, .slice none 0 0] 39))
    replace HBB := Aside.mk (HBB.out.below hb)
    replace HB2 := Aside.mk (HB2.out.trans (hb.mono HB2.out.size))
    refine hK.out _ _ (HS.out _ HB2.out) (fun hHeld => ?_)
    clear hb
    clear hK K
    refine norm_ (a' := ?_) ?_ ?_
    rotate_left
    · show Act.put _ (some 10) _ = _
      simp only [Act.put, List.setIfInBounds_toArray, List.set_cons_zero, List.set_cons_succ, i64_w, i32_w]
      rfl
    refine pu_ 11 (bm 13 4095) ?_
    generalize hgc : w7.heap.size = gc at *
    generalize w7.alloc (.cells #[.int .i64 0, .int .i64 0, .slice none 0 0] 39) = w8 at *
    obtain ⟨k0, k1, k2⟩ := cell3 HK.out
    have f0 := blk_frozen HK.out 0
    have f1 := blk_frozen HK.out 1
    have f2 := blk_frozen HK.out 2
    refine last_ (i := 12) (N := none) (bm 13 8191) rfl rfl (by kernel_rfl) (by decide) (fun K hK => ?_)
    refine skip_ (w1 := ?_) (by rfl) rfl ?_ ?_
    rotate_left
    · go_simp
      rfl
    refine hK.out _ _ ?_
    clear hK K
    refine done_ (by kernel_rfl) ?_
    clear hHeld k0 k1 k2 f0 f1 f2 HS t1 t2 t3
    obtain ⟨w9, hw9, hB9, hK9⟩ := HBB.out.set3 HK.out HGC.out (.int .i64 op) (.int .i64 cn) (.slice Ad cd.length Cd)
    rw [← hw9]
    replace HBB := Aside.mk hB9
    replace HK := Aside.mk hK9
    clear hw9 hB9 hK9 HB2 hgc
    obtain ⟨k0, k1, k2⟩ := cell3 HK.out
    by_cases ht : 0 ≤ tj ∧ tj < ((cx.prod + cx.up.length : Nat) : Int)
    rotate_left
    · -- no such thread
      have TH := Aside.mk (show (decide (0 ≤ tj) && decide (tj < ((cx.prod + cx.up.length : Nat) : Int))) = false by
        by_cases h0 : 0 ≤ tj
        · rw [decide_eq_true h0, decide_eq_false (fun h => ht ⟨h0, h⟩)]; rfl
        · rw [decide_eq_false h0]; rfl)
      have HNT := Aside.mk ht
      clear ht
      go_wp2_with fail
      refine (r_there HBB.out.r tj).mono ?_
      rintro r w10 ⟨rfl, hb⟩
      rw [TH.out]
      replace HBB := Aside.mk (HBB.out.below hb)
      replace HK := Aside.mk (blk_below HK.out hb)
      clear hb
      clear k0 k1 k2
      obtain ⟨k0, k1, k2⟩ := cell3 HK.out
      go_wp2_with fail
      refine (l_do_no HBB.out.l tj HNT.out ⟨op, cn, cd⟩ Ad Cd).mono ?_
      rintro r w11 ⟨rfl, hb⟩
      replace HBB := Aside.mk (HBB.out.below hb)
      replace HK := Aside.mk (blk_below HK.out hb)
      clear hb
      clear k0 k1 k2
      go_upto_region 15 with (fail)
      have HE := Aside.mk (heap_alloc_new w11 (.cells #[.int .i64 0, .int .i64 0, .int .i64 0, .int .i64 0, .int .u64 0, .int .i64 0, .slice none 0 0] 44))
      have hb := below_alloc (Below.refl w11.heap.size w11) (.cells #[.int .i64 0, .int .i64 0, .int .i64 0, .int .i64 0, .int .u64 0, .int .i64 0, .slice none 0 0] 44)
      replace HBB := Aside.mk (HBB.out.below hb)
      replace HK := Aside.mk (blk_below HK.out hb)
      clear hb
      generalize w11.heap.size = ge at *
      generalize w11.alloc (.cells #[.int .i64 0, .int .i64 0, .int .i64 0, .int .i64 0, .int .u64 0, .int .i64 0, .slice none 0 0] 44) = w12 at *
      obtain ⟨k0, k1, k2⟩ := cell3 HK.out
      obtain ⟨e0, e1, e2, e3, e4, e5, e6⟩ := Mo.cell7 HE.out
      go_wp2_with fail
      refine (l_waits_no HBB.out.l tj HNT.out ⟨op, cn, cd⟩ Ad Cd).mono ?_
      rintro r w13 ⟨rfl, hb⟩
      replace HBB := Aside.mk (HBB.out.below hb)
      replace HK := Aside.mk (blk_below HK.out hb)
      clear hb
      clear k0 k1 k2 e0 e1 e2 e3 e4 e5 e6
      go_wp2_with fail
      go_roundw
      case rel => exact ⟨j + 1, by first | rfl | simp, HJ.out, ⟨k, kr, st, HBB.out.next HJ1.out HJ1.out⟩⟩
      case measure =>
        simp only [intOf, tn1, Int.toNat_natCast]
        exact meas1 HJ.out
    -- a thread
    obtain ⟨tn, htn⟩ : ∃ tn : Nat, tj = (tn : Int) := ⟨tj.toNat, by omega⟩
    subst htn
    have HTN := Aside.mk (show tn < cx.prod + cx.up.length by omega)
    have TH := Aside.mk (show (decide (0 ≤ (tn : Int)) && decide ((tn : Int) < ((cx.prod + cx.up.length : Nat) : Int))) = true by rw [decide_eq_true (by omega), decide_eq_true (by omega)]; rfl)
    clear ht
    go_wp2_with fail
    refine (r_there HBB.out.r (tn : Int)).mono ?_
    rintro r w10 ⟨rfl, hb⟩
    rw [TH.out]
    replace HBB := Aside.mk (HBB.out.below hb)
    replace HK := Aside.mk (blk_below HK.out hb)
    clear hb
    clear k0 k1 k2
    obtain ⟨k0, k1, k2⟩ := cell3 HK.out
    go_wp2_with fail
    refine (r_waits HBB.out.r HEI.out tn HTN.out ⟨op, cn, cd⟩ Ad Cd).mono ?_
    rintro r w11 ⟨rfl, hb⟩
    replace HBB := Aside.mk (HBB.out.below hb)
    replace HK := Aside.mk (blk_below HK.out hb)
    clear hb
    clear k0 k1 k2
    obtain ⟨k0, k1, k2⟩ := cell3 HK.out
    by_cases hw : waitsL cx st tn ⟨op, cn, cd⟩
    · -- it waits
      rw [decide_eq_true hw]
      have HLW := Aside.mk (l_waits HBB.out.l tn HTN.out ⟨op, cn, cd⟩ Ad Cd)
      rw [decide_eq_true hw] at HLW
      have HWT := Aside.mk hw
      clear hw
      go_wp2_with fail
      refine HLW.out.mono ?_
      rintro r w12 ⟨rfl, hb⟩
      replace HBB := Aside.mk (HBB.out.below hb)
      replace HK := Aside.mk (blk_below HK.out hb)
      clear hb
      clear k0 k1 k2 HLW
      obtain ⟨k0, k1, k2⟩ := cell3 HK.out
      go_wp2_with fail
      refine (l_do_waits HBB.out.l tn HTN.out ⟨op, cn, cd⟩ HWT.out Ad Cd).mono ?_
      rintro r w13 ⟨rfl, hb⟩
      replace HBB := Aside.mk (HBB.out.below hb)
      replace HK := Aside.mk (blk_below HK.out hb)
      clear hb
      clear k0 k1 k2
      go_upto_region 21 with (fail)
      have HE := Aside.mk (heap_alloc_new w13 (.cells #[.int .i64 0, .int .i64 0, .int .i64 0, .int .i64 0, .int .u64 0, .int .i64 0, .slice none 0 0] 44))
      have hb := below_alloc (Below.refl w13.heap.size w13) (.cells #[.int .i64 0, .int .i64 0, .int .i64 0, .int .i64 0, .int .u64 0, .int .i64 0, .slice none 0 0] 44)
      replace HBB := Aside.mk (HBB.out.below hb)
      replace HK := Aside.mk (blk_below HK.out hb)
      clear hb
      generalize w13.heap.size = ge at *
      generalize w13.alloc (.cells #[.int .i64 0, .int .i64 0, .int .i64 0, .int .i64 0, .int .u64 0, .int .i64 0, .slice none 0 0] 44) = w14 at *
      obtain ⟨e0, e1, e2, e3, e4, e5, e6⟩ := Mo.cell7 HE.out
      go_wp2_with fail
      go_roundw
      case rel => exact ⟨j + 1, by first | rfl | simp, HJ.out, ⟨k, kr, st, HBB.out.next HJ1.out HJ1.out⟩⟩
      case measure =>
        simp only [intOf, tn1, Int.toNat_natCast]
        exact meas1 HJ.out
    -- it is done
    rw [decide_eq_false hw]
    have HLW := Aside.mk (l_waits HBB.out.l tn HTN.out ⟨op, cn, cd⟩ Ad Cd)
    rw [decide_eq_false hw] at HLW
    have HWT := Aside.mk hw
    clear hw
    go_wp2_with fail
    refine HLW.out.mono ?_
    rintro r w12 ⟨rfl, hb⟩
    replace HBB := Aside.mk (HBB.out.below hb)
    replace HK := Aside.mk (blk_below HK.out hb)
    clear hb
    clear k0 k1 k2 HLW
    obtain ⟨k0, k1, k2⟩ := cell3 HK.out
    have HRL := Aside.mk (show ∀ q, OwnB (rowsR kr cx st) Br q → q < w12.heap.size from fun q ho => HBB.out.r.x.lt ho)
    have HEL := Aside.mk (show (evL cx lp st tn ⟨op, cn, cd⟩).data.length ≤ 100000 from ev_len HBB.out.l.wf HBB.out.l.i)
    have HFD := Aside.mk (fun (W : World) (b : Below w.heap.size w W) (O : Nat → Prop) (hO : ∀ q, O q → w.heap.size ≤ q) => Kd.F_mono (HCD.out W b) (ok' := fun q => ¬ O q) (fun q hq ho => by have := hO q ho; omega))
    go_wp2_with fail
    refine (l_do HBB.out.l HBB.out.b HJ1.out tn HTN.out ⟨op, cn, cd⟩ HWT.out Ad Cd (HFD.out _ HBB.out.b _ (fun q ho => HBB.out.l.x.ge ho)) HCL.out).mono ?_
    rintro r w13 ⟨⟨A1, C1, rfl, hl1, hf1, hpost⟩⟩
    obtain ⟨k1', hb1, ht1⟩ := HBB.out.doL hpost
    replace HK := Aside.mk (TK.box ht1 HBB.out.l HK.out (by decide))
    replace HBB := Aside.mk hb1
    have HF1 := Aside.mk hf1
    have HL1 := Aside.mk hl1
    clear k0 k1 k2 hpost hb1 ht1 hf1 hl1
    have HDO := Aside.mk (fun (W : World) (hm : Rm w.heap.size W Br kr cx lp st j) (b : Below w.heap.size w W) => r_do hm b HJ1.out tn HTN.out ⟨op, cn, cd⟩ Ad Cd (HFD.out _ b _ (fun q ho => hm.x.ge ho)) HCL.out)
    generalize evL cx lp st tn ⟨op, cn, cd⟩ = ev at *
    unfold evV
    go_upto_region 21 with (fail)
    have HE := Aside.mk (heap_alloc_new w13 (.cells #[.int .i64 ev.kind, .int .i64 ev.thread, .int .i64 ev.op, .int .i64 ev.n, .int .u64 ev.pos, .int .i64 ev.code, .slice A1 ev.data.length C1] 44))
    have hb := below_alloc (Below.refl w13.heap.size w13) (.cells #[.int .i64 ev.kind, .int .i64 ev.thread, .int .i64 ev.op, .int .i64 ev.n, .int .u64 ev.pos, .int .i64 ev.code, .slice A1 ev.data.length C1] 44)
    replace HF1 := Aside.mk (Kd.F_below HF1.out hb)
    replace HBB := Aside.mk (HBB.out.below hb)
    replace HK := Aside.mk (blk_below HK.out hb)
    clear hb
    generalize w13.heap.size = ge at *
    generalize w13.alloc (.cells #[.int .i64 ev.kind, .int .i64 ev.thread, .int .i64 ev.op, .int .i64 ev.n, .int .u64 ev.pos, .int .i64 ev.code, .slice A1 ev.data.length C1] 44) = w14 at *
    go_upto_region 24 with (fail)
    refine start_ (n := 11) (S := fun w' => w'.cell? ⟨ge, 0, none⟩ = some (.int .i64 ev.kind) ∧ w'.cell? ⟨ge, 1, none⟩ = some (.int .i64 ev.thread) ∧ w'.cell? ⟨ge, 2, none⟩ = some (.int .i64 ev.op) ∧ w'.cell? ⟨ge, 3, none⟩ = some (.int .i64 ev.n) ∧ w'.cell? ⟨ge, 4, none⟩ = some (.int .u64 ev.pos) ∧ w'.cell? ⟨ge, 5, none⟩ = some (.int .i64 ev.code) ∧ w'.cell? ⟨ge, 6, none⟩ = some (.slice A1 ev.data.length C1) ∧ w'.cell? ⟨gc, 0, none⟩ = some (.int .i64 op) ∧ w'.cell? ⟨gc, 1, none⟩ = some (.int .i64 cn) ∧ w'.cell? ⟨gc, 2, none⟩ = some (.slice Ad cd.length Cd) ∧ True) (ds := []) (bm 11 0) (by kernel_rfl) rfl rfl ⟨(blk_cell (blk_drew HE.out) 0).trans rfl, (blk_cell (blk_drew HE.out) 1).trans rfl, (blk_cell (blk_drew HE.out) 2).trans rfl, (blk_cell (blk_drew HE.out) 3).trans rfl, (blk_cell (blk_drew HE.out) 4).trans rfl, (blk_cell (blk_drew HE.out) 5).trans rfl, (blk_cell (blk_drew HE.out) 6).trans rfl, (blk_cell (blk_drew HK.out) 0).trans rfl, (blk_cell (blk_drew HK.out) 1).trans rfl, (blk_cell (blk_drew HK.out) 2).trans rfl, trivial⟩ (fun hHeld => ?_)
    have hb := below_drew1 (Below.refl w14.heap.size w14)
    replace HE := Aside.mk (blk_below HE.out hb)
    replace HF1 := Aside.mk (Kd.F_below HF1.out hb)
    replace HBB := Aside.mk (HBB.out.below hb)
    replace HK := Aside.mk (blk_below HK.out hb)
    clear hb
    generalize w14.drew = w15 at *
    refine pu_ 0 (bm 11 1) ?_
    refine pu_ 1 (bm 11 3) ?_
    refine pu_ 2 (bm 11 7) ?_
    refine ta_ 3 (bm 11 15) hHeld ?_
    refine pu_ 4 (bm 11 31) ?_
    refine pu_ 5 (bm 11 63) ?_
    refine ta_ 6 (bm 11 127) hHeld ?_
    refine one_ (i := 7) (N := some 118) (bm 11 255) rfl rfl (by kernel_rfl) (by decide) (fun K hK => ?_)
    refine goes_ Tryd.func17 (by kernel_rfl) rfl #[.pointer (some ⟨Br, 0, none⟩), .int .i64 (tn : Int), .agg #[.int .i64 op, .int .i64 cn, .slice Ad cd.length Cd]] (by rfl) rfl rfl (by (try simp only [List.map_toArray, List.map_cons, List.map_nil]); first | done | rfl) ?_
    refine (HDO.out _ HBB.out.r HBB.out.b).mono ?_
    rintro q w16 ⟨⟨A2, C2, rfl, hl2, hf2, hpost⟩⟩
    refine ⟨_, rfl, ?_⟩
    obtain ⟨kr2, hb2, ht2⟩ := HBB.out.doR hpost
    replace HE := Aside.mk (TKR.box ht2 HBB.out.r HE.out (by decide))
    replace HK := Aside.mk (TKR.box ht2 HBB.out.r HK.out (by decide))
    replace HF1 := Aside.mk (Kd.F_step HF1.out (fun q hq hl => ht2.p q hl (fun ho => by have := HRL.out q ho; omega)))
    replace HBB := Aside.mk hb2
    have HF2 := Aside.mk hf2
    have HL2 := Aside.mk hl2
    clear hpost hb2 ht2 hf2 hl2
    refine hK.out _ _ ⟨(blk_cell HE.out 0).trans rfl, (blk_cell HE.out 1).trans rfl, (blk_cell HE.out 2).trans rfl, (blk_cell HE.out 3).trans rfl, (blk_cell HE.out 4).trans rfl, (blk_cell HE.out 5).trans rfl, (blk_cell HE.out 6).trans rfl, (blk_cell HK.out 0).trans rfl, (blk_cell HK.out 1).trans rfl, (blk_cell HK.out 2).trans rfl, trivial⟩ (fun hHeld => ?_)
    clear hK K
    refine norm_ (a' := ?_) ?_ ?_
    rotate_left
    · show Act.put _ (some 118) _ = _
      simp only [Act.put, List.setIfInBounds_toArray, List.set_cons_zero, List.set_cons_succ, i64_w, i32_w]
      rfl
    refine one_ (i := 8) (N := some 119) (bm 11 511) rfl rfl (by kernel_rfl) (by decide) (fun K hK => ?_)
    refine goes_ Tryd.func16 (by kernel_rfl) rfl #[.agg (evV ev A1 C1), .agg (evV ev A2 C2)] (by rfl) rfl rfl (by (try simp only [List.map_toArray, List.map_cons, List.map_nil]); first | done | rfl) ?_
    refine (one_true ev HEL.out (Kd.F_now HF1.out) HL1.out (Kd.F_now HF2.out) HL2.out).mono ?_
    rintro q w17 ⟨rfl, hb⟩
    refine ⟨_, rfl, ?_⟩
    replace HE := Aside.mk (blk_below HE.out hb)
    replace HBB := Aside.mk (HBB.out.below hb)
    replace HK := Aside.mk (blk_below HK.out hb)
    clear hb
    refine hK.out _ _ ⟨(blk_cell HE.out 0).trans rfl, (blk_cell HE.out 1).trans rfl, (blk_cell HE.out 2).trans rfl, (blk_cell HE.out 3).trans rfl, (blk_cell HE.out 4).trans rfl, (blk_cell HE.out 5).trans rfl, (blk_cell HE.out 6).trans rfl, (blk_cell HK.out 0).trans rfl, (blk_cell HK.out 1).trans rfl, (blk_cell HK.out 2).trans rfl, trivial⟩ (fun hHeld => ?_)
    clear hK K
    refine norm_ (a' := ?_) ?_ ?_
    rotate_left
    · show Act.put _ (some 119) _ = _
      simp only [Act.put, List.setIfInBounds_toArray, List.set_cons_zero, List.set_cons_succ, i64_w, i32_w]
      rfl
    refine pu_ 9 (bm 11 1023) ?_
    refine pu_ 10 (bm 11 2047) ?_
    refine done_ (by kernel_rfl) ?_
    clear hHeld
    go_wp2_with fail
    go_roundw
    case rel => exact ⟨j + 1, by first | rfl | simp, HJ.out, ⟨k1', kr2, _, HBB.out⟩⟩
    case measure =>
      simp only [intOf, tn1, Int.toNat_natCast]
      exact meas1 HJ.out
end Go.Proofs.YtgibmlbdkijflaaDoor.So
