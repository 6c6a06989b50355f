/- The walk of sakialaw29.ModelPlays: for every configuration and events the call returns true, and what was in memory stays. Asked: the library's table lies as laid. -/
import Derived.Test.YtnnfcdffnckoiaaDoorMoStop
set_option linter.unusedVariables false
set_option linter.unusedSimpArgs false
set_option maxRecDepth 100000
namespace Go.Proofs.YtnnfcdffnckoiaaDoor.Mo
open Go.RowKit Go.Proofs.YtnnfcdffnckoiaaDoorW.PrintWords Go.Proofs.YtnnfcdffnckoiaaDoorW.PrintLast Go.Proofs.YtnnfcdffnckoiaaDoorW.PrintMore
open Graph (checkG Fine Gv endsI ref_ends fine_of ends_some Tabled ends_okR)
open QGc (checkC boundB)
open QCf (S44 k44)
/-- The bits of a number: which operations of a region are done. -/
def bm (n k : Nat) : Array Bool := ((List.range n).map (fun i => Nat.testBit k i)).toArray
theorem notOwnP {base : Nat} {w : World} {B : Nat} {k : Mk} {cx : Cx} {st : St} (h : MM base w B k cx st) {q t : Nat} {cs : Array Value} (hb : w.heap[q]? = some (.cells cs t (0, 0))) (ht : t ≠ 100 ∧ t ≠ 62 ∧ t ≠ 4 ∧ t ≠ 3) : ¬ Own k B q := by
  intro ho
  rcases ho with e | e | e | e | e | e
  · rw [e] at hb
    exact blk_ne hb h.r.blk ht.1 rfl
  · exact (Kd.R_ne h.x.h hb (fun e => ht.2.1 e.symm)) e
  · exact (Kd.R_ne h.x.p hb (fun e => ht.2.2.1 e.symm)) e
  · exact (Kd.R_ne h.x.d hb (fun e => ht.2.2.2 e.symm)) e
  · exact (Kd.R_ne h.x.g hb (fun e => ht.2.2.2 e.symm)) e
  · exact (Kd.R_ne h.x.s hb (fun e => ht.2.2.2 e.symm)) e
/-- A box that is not the model's is written. -/
theorem MM.far {base : Nat} {w : World} {B : Nat} {k : Mk} {cx : Cx} {st : St} (h : MM base w B k cx st) {g t : Nat} {cs : Array Value} (hb : w.heap[g]? = some (.cells cs t (0, 0))) (ht : t ≠ 100 ∧ t ≠ 62 ∧ t ≠ 4 ∧ t ≠ 3) (hg : cx.lim ≤ g) (j : Nat) (u : Value) : MM base (w.setCell ⟨g, j, none⟩ u) B k cx st := by
  have hgB : g ≠ B := fun e => notOwnP h hb ht (.inl e)
  have hB : (w.setCell ⟨g, j, none⟩ u).heap[B]? = w.heap[B]? := Below.heap_setCell w ⟨g, j, none⟩ u B (fun e => hgB e.symm)
  have hx : MX base (w.setCell ⟨g, j, none⟩ u) B k cx st := { h.x with
    bt := by obtain ⟨cs, hc⟩ := h.x.bt; exact ⟨cs, hB.trans hc⟩
    h := Kd.R_set h.x.h hb (fun q hq => (List.mem_cons.1 hq).elim (fun e => by rw [e]; exact Ne.symm ht.2.1) (fun e => by cases e)) j u
    p := Kd.R_set h.x.p hb (fun q hq => (List.mem_cons.1 hq).elim (fun e => by rw [e]; exact Ne.symm ht.2.2.1) (fun e => by cases e)) j u
    d := Kd.R_set h.x.d hb (fun q hq => (List.mem_cons.1 hq).elim (fun e => by rw [e]; exact Ne.symm ht.2.2.2) (fun e => by cases e)) j u
    g := Kd.R_set h.x.g hb (fun q hq => (List.mem_cons.1 hq).elim (fun e => by rw [e]; exact Ne.symm ht.2.2.2) (fun e => by cases e)) j u
    s := Kd.R_set h.x.s hb (fun q hq => (List.mem_cons.1 hq).elim (fun e => by rw [e]; exact Ne.symm ht.2.2.2) (fun e => by cases e)) j u
    e := Kd.F_far h.x.e (fun q ho => by have := ho.2; show q ≠ g; omega) u
    u := Kd.F_far h.x.u (fun q ho => by have := ho.2; show q ≠ g; omega) u }
  exact ⟨hx, MR.of (P := k.P) (pn := k.pn) (pc := k.pc) (D := k.D) (dn := k.dn) (dc := k.dc) h.r hx (hB.trans h.r.blk) h.r.wf h.r.tb h.r.gb h.r.rb⟩
/-- The box of the document's model is written anew; the program's model stays. -/
theorem box7m {base : Nat} {w0 w : World} {X : Nat} {m : Mp} {up : List (List Int)} {cx : Cx} {st st' : St} {B : Nat} {k : Mk} {i : Nat} {a0 a1 a2 a3 a4 a5 a6 : Value} (h : RS base w m up cx st i) (hm : MM base w B k cx st') (hx : w.heap[X]? = some (.cells #[a0, a1, a2, a3, a4, a5, a6] 68 (0, 0))) (hb : Below w0.heap.size w0 w) (hX : w0.heap.size ≤ X) (hbase : base ≤ X) (hl : cx.lim ≤ X) (v0 v1 v2 v3 v4 v5 v6 : Value) :
    ∃ W, W = (((((((w.setCell ⟨X, 0, none⟩ v0).setCell ⟨X, 1, none⟩ v1).setCell ⟨X, 2, none⟩ v2).setCell ⟨X, 3, none⟩ v3).setCell ⟨X, 4, none⟩ v4).setCell ⟨X, 5, none⟩ v5).setCell ⟨X, 6, none⟩ v6) ∧ RS base W m up cx st i ∧ MM base W B k cx st' ∧ W.heap[X]? = some (.cells #[v0, v1, v2, v3, v4, v5, v6] 68 (0, 0)) ∧ Below w0.heap.size w0 W := by
  obtain ⟨W, hW, h1, h2, h3⟩ := box7 h hx hb hX hbase v0 v1 v2 v3 v4 v5 v6
  refine ⟨W, hW, h1, ?_, h2, h3⟩
  rw [hW]
  have k0 := blk_put (cs' := #[v0, a1, a2, a3, a4, a5, a6]) hx 0 v0 rfl
  have k1 := blk_put (cs' := #[v0, v1, a2, a3, a4, a5, a6]) k0 1 v1 rfl
  have k2 := blk_put (cs' := #[v0, v1, v2, a3, a4, a5, a6]) k1 2 v2 rfl
  have k3 := blk_put (cs' := #[v0, v1, v2, v3, a4, a5, a6]) k2 3 v3 rfl
  have k4 := blk_put (cs' := #[v0, v1, v2, v3, v4, a5, a6]) k3 4 v4 rfl
  have k5 := blk_put (cs' := #[v0, v1, v2, v3, v4, v5, a6]) k4 5 v5 rfl
  exact ((((((hm.far hx (by decide) hl 0 v0).far k0 (by decide) hl 1 v1).far k1 (by decide) hl 2 v2).far k2 (by decide) hl 3 v3).far k3 (by decide) hl 4 v4).far k4 (by decide) hl 5 v5).far k5 (by decide) hl 6 v6
/-- While both models go through the events. -/
structure PL (w wr : World) (B X : Nat) (v wd cp pr sa : Int) (A : Option Addr) (C : Nat) (up : List (List Int)) (k : Mk) (cx : Cx) (st : St) (i : Nat) : Prop where
  m : MM w.heap.size wr B k cx st
  r : ∃ A' C' L', RS w.heap.size wr (mk0 v wd cp pr sa A C up A' C' L') up cx st i ∧ wr.heap[X]? = some (.cells #[.int .i64 v, .int .i64 wd, .int .i64 cp, .int .i64 pr, .int .u64 sa, .slice A up.length C, .slice A' L'.length C'] 68 (0, 0))
  b : Below w.heap.size w wr
set_option maxHeartbeats 16000000 in
theorem walkPlays (w : World) (v wd cp pr sa : Int) (A : Option Addr) (C : Nat) (up : List (List Int)) (hup : Kd.C (Kd.slice 3 (Kd.int .i64)) w A up.length up) (hC : up.length ≤ C) (hsa : U64 sa) (AE : Option Addr) (CE : Nat) (l0 : List S44) (hl : Kd.C k44 w AE l0.length l0) (hCE : l0.length ≤ CE) (hok : ∀ x ∈ l0, I64 x.f1 ∧ I64 x.f3 ∧ U64 x.f4) (hT : Tabled w) :
    Calls Tryd.prog 5 #[.agg #[.int .i64 v, .int .i64 wd, .int .i64 cp, .int .i64 pr, .int .u64 sa, .slice A up.length C], .slice AE l0.length CE] w fun r W => Yes w W r := by
  have hb0 := below_alloc (Below.refl w.heap.size w) (.cells #[.int .i64 v, .int .i64 wd, .int .i64 cp, .int .i64 pr, .int .u64 sa, .slice A up.length C] 25)
  obtain ⟨bs, hbs⟩ := evs_of hl
  obtain ⟨b1, hs1, hc1⟩ := long09 (Kd.C_below hup hb0) hC
  have HBS := Aside.mk hbs
  have HT := Aside.mk hT
  have HS1 := Aside.mk hs1
  have HC1 := Aside.mk hc1
  have HIN := Aside.mk (And.intro hup (And.intro hC (And.intro hsa (And.intro hl (And.intro hCE hok)))))
  have HB := Aside.mk hb0
  have HY := Aside.mk (heap_alloc_new w (.cells #[.int .i64 v, .int .i64 wd, .int .i64 cp, .int .i64 pr, .int .u64 sa, .slice A up.length C] 25))
  clear hb0 hbs hs1 hc1 hup hC hsa hl hCE hok hT
  go_enter Tryd.func5, Tryd.ntmps5
  go_upto_region 1 with (fail)
  generalize w.alloc (.cells #[.int .i64 v, .int .i64 wd, .int .i64 cp, .int .i64 pr, .int .u64 sa, .slice A up.length C] 25) = w2 at *
  obtain ⟨y0, y1, y2, y3, y4, y5⟩ := cell6 HY.out
  go_wp2_with fail
  refine HC1.out.mono ?_
  rintro r w3 ⟨rfl, hb⟩
  replace HB := Aside.mk (below_low hb HB.out)
  replace HY := Aside.mk (blk_below HY.out hb)
  clear hb HC1 y0 y1 y2 y3 y4 y5
  cases b1 with
  | true =>
    obtain ⟨y0, y1, y2, y3, y4, y5⟩ := cell6 HY.out
    go_wp2_with fail
    refine (live_ _ (HT.out.below HB.out)).mono ?_
    rintro r W ⟨rfl, hb⟩
    go_wp2
    go_ret
    exact ⟨rfl, below_low hb HB.out⟩
  | false =>
    have HSM := Aside.mk (HS1.out rfl)
    obtain ⟨b2, hs2, hc2⟩ := long15 60 (by decide) (w := w3) (Kd.C_below HIN.out.2.2.2.1 HB.out) HIN.out.2.2.2.2.1
    have HS2 := Aside.mk hs2
    have HC2 := Aside.mk hc2
    clear hs2 hc2
    obtain ⟨y0, y1, y2, y3, y4, y5⟩ := cell6 HY.out
    go_wp2_with fail
    refine HC2.out.mono ?_
    rintro r w4 ⟨rfl, hb⟩
    replace HB := Aside.mk (below_low hb HB.out)
    replace HY := Aside.mk (blk_below HY.out hb)
    clear hb HC2 y0 y1 y2 y3 y4 y5
    cases b2 with
    | true =>
      obtain ⟨y0, y1, y2, y3, y4, y5⟩ := cell6 HY.out
      go_wp2_with fail
      refine (live_ _ (HT.out.below HB.out)).mono ?_
      rintro r W ⟨rfl, hb⟩
      go_wp2
      go_ret
      exact ⟨rfl, below_low hb HB.out⟩
    | false =>
      have HSL := Aside.mk (HS2.out rfl)
      have HG := Aside.mk (show Gv w A C up from ⟨HIN.out.1, HIN.out.2.1, HSM.out⟩)
      clear HS1 HS2
      by_cases hck : checkC v wd cp pr up = 0
      rotate_left
      · have HNO := Aside.mk (pnew_no w4 v wd cp pr sa A C up (HG.out.below HB.out) hck)
        have HRC := Aside.mk (fun (W : World) (hW : Below w.heap.size w W) => rcheck10 (v := v) (wd := wd) (cp := cp) (pr := pr) (sa := sa) (HG.out.below hW))
        have t1 : (checkC v wd cp pr up != 0) = true := by simpa using hck
        clear hck
        generalize checkC v wd cp pr up = cod at *
        have t2 : (cod != cod) = false := by simp
        obtain ⟨y0, y1, y2, y3, y4, y5⟩ := cell6 HY.out
        go_wp2_with fail
        refine HNO.out.mono ?_
        rintro r w5 ⟨rfl, hb⟩
        replace HB := Aside.mk (below_low hb HB.out)
        replace HY := Aside.mk (blk_below HY.out hb)
        clear hb y0 y1 y2 y3 y4 y5 HNO
        obtain ⟨y0, y1, y2, y3, y4, y5⟩ := cell6 HY.out
        go_wp2_with fail
        refine (HRC.out _ HB.out).mono ?_
        rintro r w6 ⟨rfl, hb⟩
        replace HB := Aside.mk (below_low hb HB.out)
        clear hb y0 y1 y2 y3 y4 y5 HRC
        go_wp2_with fail
        refine (live_ _ (HT.out.below HB.out)).mono ?_
        rintro r W ⟨rfl, hb⟩
        go_wp2
        go_ret
        exact ⟨rfl, below_low hb HB.out⟩
      have HCK := Aside.mk hck
      obtain ⟨cx, HCX⟩ : ∃ cx, Aside (CxOk v wd cp pr sa up cx) := ⟨_, ⟨cxOf_ok HSM.out hck⟩⟩
      have HNEW := Aside.mk (pnew w w4 HB.out v wd cp pr sa A C up (HG.out.below HB.out) hck HIN.out.2.2.1 (HT.out.below HB.out) cx HCX.out)
      clear hck
      obtain ⟨y0, y1, y2, y3, y4, y5⟩ := cell6 HY.out
      go_wp2_with fail
      refine HNEW.out.mono ?_
      rintro r w5 ⟨⟨B, k, rfl, hMM, hown, hb⟩⟩
      have HCX2 := HCX.out.lim B
      have hst0 : st0 cx = st0 { cx with lim := B } := rfl
      rw [hst0] at hMM
      clear HCX hst0 HNEW
      have hlim : ({ cx with lim := B } : Cx).lim = B := rfl
      generalize { cx with lim := B } = cx at hMM HCX2 hlim
      have HLIM := Aside.mk hlim
      clear hlim
      have HCX := Aside.mk HCX2
      clear HCX2
      have HMM := Aside.mk hMM
      have HOW := Aside.mk (show ∀ q, Own k B q → w.heap.size ≤ q from fun q hq => Nat.le_trans HB.out.size (hown q hq))
      replace HB := Aside.mk (below_low hb HB.out)
      replace HY := Aside.mk (blk_below HY.out hb)
      clear hb hMM hown y0 y1 y2 y3 y4 y5
      have HRC := Aside.mk (rcheck10 (v := v) (wd := wd) (cp := cp) (pr := pr) (sa := sa) (HG.out.below HB.out))
      rw [HCK.out] at HRC
      obtain ⟨y0, y1, y2, y3, y4, y5⟩ := cell6 HY.out
      go_wp2_with fail
      refine HRC.out.mono ?_
      rintro r w6 ⟨rfl, hb⟩
      replace HB := Aside.mk (below_low hb HB.out)
      replace HY := Aside.mk (blk_below HY.out hb)
      replace HMM := Aside.mk (HMM.out.below hb)
      clear hb HRC y0 y1 y2 y3 y4 y5
      obtain ⟨y0, y1, y2, y3, y4, y5⟩ := cell6 HY.out
      go_upto_region 9 with (fail)
      have hbx := below_alloc (Below.refl w6.heap.size w6) (.cells #[.int .i64 v, .int .i64 wd, .int .i64 cp, .int .i64 pr, .int .u64 sa, .slice A up.length C, .slice none 0 0] 68)
      have HX := Aside.mk (heap_alloc_new w6 (.cells #[.int .i64 v, .int .i64 wd, .int .i64 cp, .int .i64 pr, .int .u64 sa, .slice A up.length C, .slice none 0 0] 68))
      obtain ⟨X, hX⟩ : ∃ X, X = w6.heap.size := ⟨_, rfl⟩
      rw [← hX] at HX ⊢
      have HXG := Aside.mk (show w.heap.size ≤ X by rw [hX]; exact HB.out.size)
      have HXL := Aside.mk (show cx.lim ≤ X by have := blk_lt HMM.out.r.blk; rw [HLIM.out, hX]; omega)
      have HRS := Aside.mk (rs0 HCX.out HG.out HIN.out.2.2.1 (below_low hbx HB.out))
      replace HB := Aside.mk (below_low hbx HB.out)
      replace HMM := Aside.mk (HMM.out.below hbx)
      clear hbx hX y0 y1 y2 y3 y4 y5 HY
      generalize w6.alloc (.cells #[.int .i64 v, .int .i64 wd, .int .i64 cp, .int .i64 pr, .int .u64 sa, .slice A up.length C, .slice none 0 0] 68) = w7 at *
      go_wp2_with fail
      go_loopw [8] (fun x wr => ∃ (i : Nat) (k : Mk) (st : St), x = .int .i64 (i : Int) ∧ i ≤ l0.length ∧ Aside (PL w wr B X v wd cp pr sa A C up k cx st i)) (fun x _ => l0.length - (intOf x).toNat)
      case atStart => exact ⟨0, k, _, rfl, Nat.zero_le _, ⟨⟨HMM.out, ⟨none, 0, [], HRS.out, HX.out⟩, HB.out⟩⟩⟩
      case round =>
        clear HX HRS HB HMM HOW
        obtain ⟨i, k, sti, rfl, hi, HL⟩ := hrel
        by_cases hlt : i < l0.length
        rotate_left
        · have t1 : decide ((i : Int) < (l0.length : Int)) = false := decide_eq_false (by omega)
          have t2 : decide (i < l0.length) = false := decide_eq_false hlt
          clear hi hlt
          have HB := Aside.mk HL.out.b
          clear HL
          go_wp2_with fail
          refine (live_ _ (HT.out.below HB.out)).mono ?_
          rintro r W ⟨rfl, hb⟩
          go_wp2
          go_ret
          exact ⟨rfl, below_low hb HB.out⟩
        have t1 : decide ((i : Int) < (l0.length : Int)) = true := decide_eq_true (by omega)
        have t2 : decide (i < l0.length) = true := decide_eq_true hlt
        have t3 : (i : Int) < (l0.length : Int) := by omega
        have HLT := Aside.mk hlt
        have hm : i < (l0.map evOf).length := by rw [List.length_map]; exact hlt
        obtain ⟨A', C', L', hRS, hX⟩ := HL.out.r
        have HRS := Aside.mk hRS
        have HX := Aside.mk hX
        have HMM := Aside.mk HL.out.m
        have HWB := Aside.mk HL.out.b
        obtain ⟨ad, rfl, ⟨e0, e1, e2, e3, e4, e5, e6⟩, hdc, hdd⟩ := HBS.out wr (fun q hq => HWB.out.block q hq) i hm
        have HEW := Aside.mk (fun (W : World) (hW : Below w.heap.size w W) => (show EvAt W ad i ((l0.map evOf)[i]'hm) (bs i).1 (bs i).2 from by
          obtain ⟨ad', h1, h2, _, _⟩ := HBS.out W (fun q hq => hW.block q hq) i hm
          cases h1
          exact h2))
        have HEK := Aside.mk (show I64 ((l0.map evOf)[i]'hm).thread ∧ U64 ((l0.map evOf)[i]'hm).pos ∧ ((l0.map evOf)[i]'hm).data.length ≤ 100 ∧ I64 ((l0.map evOf)[i]'hm).n from by
          simp only [List.getElem_map]
          exact ⟨(HIN.out.2.2.2.2.2 _ (List.getElem_mem hlt)).1, (HIN.out.2.2.2.2.2 _ (List.getElem_mem hlt)).2.2, HSL.out.2 _ (List.getElem_mem hlt), (HIN.out.2.2.2.2.2 _ (List.getElem_mem hlt)).2.1⟩)
        have ei := Mo.i1 (show i < 4611686018427387904 by have := HSL.out.1; omega)
        have HHB := Aside.mk (show Kd.F (Kd.int .i64) wr (fun q => q < w.heap.size) (bs i).1 ((l0.map evOf)[i]'hm).data.length ((l0.map evOf)[i]'hm).data from fun W hW => by
          obtain ⟨_, _, _, _, h9⟩ := HBS.out W (fun q hq => (hW q hq (Nat.lt_of_lt_of_le hq HWB.out.size)).trans (HWB.out.block q hq)) i hm
          exact h9)
        have HDF := Aside.mk (fun (W : World) (k' : Mk) (st' : St) (hW : Below w.heap.size w W) (hM : MM w.heap.size W B k' cx st') => (show Kd.F (Kd.int .i64) W (fun q => ¬ Own k' B q) (bs i).1 ((l0.map evOf)[i]'hm).data.length ((l0.map evOf)[i]'hm).data from fun W' hW' => by
          obtain ⟨_, _, _, _, h9⟩ := HBS.out W' (fun q hq => (hW' q (fun ho => by have := own_ge_ hM ho; omega) (Nat.lt_of_lt_of_le hq hW.size)).trans (hW.block q hq)) i hm
          exact h9))
        generalize hee : (l0.map evOf)[i]'hm = e at *
        generalize hbi : bs i = bi at *
        obtain ⟨Bd, bc⟩ := bi
        simp only at e6 hdc hdd HHB HEW HDF
        have HDC := Aside.mk hdc
        have HI200 := Aside.mk (show i < 200 by have := HLT.out; have := HSL.out.1; omega)
        have HDL := Aside.mk (show e.data.length ≤ 100000 by have := HEK.out.2.2.1; omega)
        have HEV := Aside.mk (show EvAt wr ad i e Bd bc from ⟨e0, e1, e2, e3, e4, e5, e6⟩)
        clear hee hbi hdc hdd hRS hX HL e0 e1 e2 e3 e4 e5 e6 hi hlt
        obtain ⟨x0, x1, x2, x3, x4, x5, x6⟩ := cell7 HX.out
        go_wp2_with fail
        clear t1 t2 x0 x1 x2 x3 x4 x5 x6
        refine start_ (n := 12) (S := fun w' => w'.cell? ⟨X, 0, none⟩ = some (.int .i64 v) ∧ w'.cell? ⟨X, 1, none⟩ = some (.int .i64 wd) ∧ w'.cell? ⟨X, 2, none⟩ = some (.int .i64 cp) ∧ w'.cell? ⟨X, 3, none⟩ = some (.int .i64 pr) ∧ w'.cell? ⟨X, 4, none⟩ = some (.int .u64 sa) ∧ w'.cell? ⟨X, 5, none⟩ = some (.slice A up.length C) ∧ w'.cell? ⟨X, 6, none⟩ = some (.slice A' L'.length C') ∧ w'.cell? (ad.add (i * 7)) = some (.int .i64 e.kind) ∧ w'.cell? ⟨(ad.add (i * 7)).block, (ad.add (i * 7)).off + 1, none⟩ = some (.int .i64 e.thread) ∧ w'.cell? ⟨(ad.add (i * 7)).block, (ad.add (i * 7)).off + 2, none⟩ = some (.int .i64 e.op) ∧ w'.cell? ⟨(ad.add (i * 7)).block, (ad.add (i * 7)).off + 3, none⟩ = some (.int .i64 e.n) ∧ w'.cell? ⟨(ad.add (i * 7)).block, (ad.add (i * 7)).off + 4, none⟩ = some (.int .u64 e.pos) ∧ w'.cell? ⟨(ad.add (i * 7)).block, (ad.add (i * 7)).off + 5, none⟩ = some (.int .i64 e.code) ∧ w'.cell? ⟨(ad.add (i * 7)).block, (ad.add (i * 7)).off + 6, none⟩ = some (.slice Bd e.data.length bc) ∧ True) (ds := [10]) (bm 12 0) (by kernel_rfl) rfl rfl ⟨(blk_cell (blk_drew HX.out) 0).trans rfl, (blk_cell (blk_drew HX.out) 1).trans rfl, (blk_cell (blk_drew HX.out) 2).trans rfl, (blk_cell (blk_drew HX.out) 3).trans rfl, (blk_cell (blk_drew HX.out) 4).trans rfl, (blk_cell (blk_drew HX.out) 5).trans rfl, (blk_cell (blk_drew HX.out) 6).trans rfl, (HEV.out.below (below_drew1 (Below.refl _ _))).1, (HEV.out.below (below_drew1 (Below.refl _ _))).2.1, (HEV.out.below (below_drew1 (Below.refl _ _))).2.2.1, (HEV.out.below (below_drew1 (Below.refl _ _))).2.2.2.1, (HEV.out.below (below_drew1 (Below.refl _ _))).2.2.2.2.1, (HEV.out.below (below_drew1 (Below.refl _ _))).2.2.2.2.2.1, (HEV.out.below (below_drew1 (Below.refl _ _))).2.2.2.2.2.2, trivial⟩ (fun hHeld => ?_)
        have hbd := below_drew1 (Below.refl wr.heap.size wr)
        have HD := Aside.mk hbd
        replace HX := Aside.mk (blk_drew HX.out)
        replace HRS := Aside.mk (HRS.out.below hbd)
        replace HEV := Aside.mk (HEV.out.below hbd)
        replace HHB := Aside.mk (Kd.F_below HHB.out hbd)
        have HSZ := Aside.mk (Nat.le_trans HWB.out.size hbd.size)
        clear hbd
        generalize wr.drew = wa at *
        refine take_ (i := 0) (N := some 47) (v := ?_) (a' := ?_) (bm 12 1) rfl rfl (by kernel_rfl) (fun _ _ _ h => h) (Or.inl ⟨by rfl, ?_⟩) hHeld ?_ ?_
        rotate_left
        · rintro w' ⟨s0, s1, s2, s3, s4, s5, s6, s7, s8, s9, s10, s11, s12, s13, s14⟩; go_simp; with_reducible rfl
        rotate_left
        · simp only [Act.put, List.setIfInBounds_toArray, List.set_cons_zero, List.set_cons_succ, i64_w, i32_w]; rfl
        refine pure_ (i := 1) (N := some 48) (v := ?_) (a' := ?_) (bm 12 3) rfl rfl (by kernel_rfl) (fun _ _ _ h => h) (Or.inl ⟨by rfl, ?_⟩) ?_ ?_
        rotate_left
        · intro w'; go_simp; with_reducible rfl
        rotate_left
        · simp only [Act.put, List.setIfInBounds_toArray, List.set_cons_zero, List.set_cons_succ, i64_w, i32_w]; rfl
        refine pure_ (i := 2) (N := some 49) (v := ?_) (a' := ?_) (bm 12 7) rfl rfl (by kernel_rfl) (fun _ _ _ h => h) (Or.inl ⟨by rfl, ?_⟩) ?_ ?_
        rotate_left
        · intro w'; go_simp; with_reducible rfl
        rotate_left
        · simp only [Act.put, List.setIfInBounds_toArray, List.set_cons_zero, List.set_cons_succ, i64_w, i32_w]; rfl
        refine pure_ (i := 3) (N := some 50) (v := ?_) (a' := ?_) (bm 12 15) rfl rfl (by kernel_rfl) (fun _ _ _ h => h) (Or.inl ⟨by rfl, ?_⟩) ?_ ?_
        rotate_left
        · intro w'; go_simp; with_reducible rfl
        rotate_left
        · simp only [Act.put, List.setIfInBounds_toArray, List.set_cons_zero, List.set_cons_succ, i64_w, i32_w]; rfl
        refine take_ (i := 4) (N := some 51) (v := ?_) (a' := ?_) (bm 12 31) rfl rfl (by kernel_rfl) (fun _ _ _ h => h) (Or.inl ⟨by rfl, ?_⟩) hHeld ?_ ?_
        rotate_left
        · rintro w' ⟨s0, s1, s2, s3, s4, s5, s6, s7, s8, s9, s10, s11, s12, s13, s14⟩; go_simp; with_reducible rfl
        rotate_left
        · simp only [Act.put, List.setIfInBounds_toArray, List.set_cons_zero, List.set_cons_succ, i64_w, i32_w]; rfl
        refine join_ (σ := Nat × Option Addr × Nat × List On) 2 (bm 12 1023) (fun s => [(52, .tuple #[.agg #[.int .i64 v, .int .i64 wd, .int .i64 cp, .int .i64 pr, .int .u64 sa, .slice A up.length C, .slice s.2.1 s.2.2.2.length s.2.2.1], .int .i64 (code cx sti e)]), (46, .tuple #[.agg #[.int .i64 v, .int .i64 wd, .int .i64 cp, .int .i64 pr, .int .u64 sa, .slice A up.length C, .slice s.2.1 s.2.2.2.length s.2.2.1], .int .i64 (code cx sti e)]), (53, .agg #[.int .i64 v, .int .i64 wd, .int .i64 cp, .int .i64 pr, .int .u64 sa, .slice A up.length C, .slice s.2.1 s.2.2.2.length s.2.2.1]), (54, .int .i64 (code cx sti e)), (9, .pointer (some ⟨s.1, 0, none⟩))]) (fun s wb => wa.heap.size ≤ s.1 ∧ wb.heap[s.1]? = some (.cells #[.int .i64 0, .int .i64 0, .int .i64 0, .int .i64 0, .int .u64 0, .slice none 0 0, .slice none 0 0] 68 (0, 0)) ∧ RS w.heap.size wb (mk0 v wd cp pr sa A C up s.2.1 s.2.2.1 s.2.2.2) up cx (step cx sti e) (i + 1) ∧ Below wa.heap.size wa wb) (fun s wb hF => ?cont) (fun J => ?orders)
        case orders =>
          refine two_ (i := 5) (j := 9) (Ni := some 52) (Nj := some 9) (bm 12 63) (bm 12 543) rfl rfl rfl rfl (by kernel_rfl) (by decide) (by decide) (fun K hK => ?_) (fun K hK => ?_)
          ·
            refine goes_ Tryd.func35 (by kernel_rfl) rfl #[.agg #[.int .i64 v, .int .i64 wd, .int .i64 cp, .int .i64 pr, .int .u64 sa, .slice A up.length C, .slice A' L'.length C'], .agg #[.int .i64 e.kind, .int .i64 e.thread, .int .i64 e.op, .int .i64 e.n, .int .u64 e.pos, .int .i64 e.code, .slice Bd e.data.length bc]] (by rfl) rfl rfl (by (try simp only [List.map_toArray, List.map_cons, List.map_nil]); first | done | rfl) ?_
            with_reducible refine (rapply0 w.heap.size wa v wd cp pr sa A C up A' C' L' cx sti i HRS.out HI200.out HSZ.out e Bd bc HEK.out.2.1 HEK.out.1 HDL.out HDC.out HHB.out).mono ?_
            rintro q wn ⟨⟨A2, C2, L2, rfl, hrs, hb⟩⟩
            refine ⟨_, rfl, ?_⟩
            have hx2 := blk_below HX.out hb
            have he2 := EvAt.below HEV.out hb
            refine hK.out _ _ ⟨(blk_cell hx2 0).trans rfl, (blk_cell hx2 1).trans rfl, (blk_cell hx2 2).trans rfl, (blk_cell hx2 3).trans rfl, (blk_cell hx2 4).trans rfl, (blk_cell hx2 5).trans rfl, (blk_cell hx2 6).trans rfl, he2.1, he2.2.1, he2.2.2.1, he2.2.2.2.1, he2.2.2.2.2.1, he2.2.2.2.2.2.1, he2.2.2.2.2.2.2, trivial⟩ (fun hHeld => ?_)
            clear hK K
            refine norm_ (a' := ?_) ?_ ?_
            rotate_left
            · show Act.put _ (some 52) _ = _
              simp only [Act.put, List.setIfInBounds_toArray, List.set_cons_zero, List.set_cons_succ, i64_w, i32_w]
              rfl
            refine pure_ (i := 6) (N := some 46) (v := ?_) (a' := ?_) (bm 12 127) rfl rfl (by kernel_rfl) (fun _ _ _ h => h) (Or.inl ⟨by rfl, ?_⟩) ?_ ?_
            rotate_left
            · intro w'; go_simp; with_reducible rfl
            rotate_left
            · simp only [Act.put, List.setIfInBounds_toArray, List.set_cons_zero, List.set_cons_succ, i64_w, i32_w]; rfl
            refine pure_ (i := 7) (N := some 53) (v := ?_) (a' := ?_) (bm 12 255) rfl rfl (by kernel_rfl) (fun _ _ _ h => h) (Or.inl ⟨by rfl, ?_⟩) ?_ ?_
            rotate_left
            · intro w'; go_simp; with_reducible rfl
            rotate_left
            · simp only [Act.put, List.setIfInBounds_toArray, List.set_cons_zero, List.set_cons_succ, i64_w, i32_w]; rfl
            refine pure_ (i := 8) (N := some 54) (v := ?_) (a' := ?_) (bm 12 511) rfl rfl (by kernel_rfl) (fun _ _ _ h => h) (Or.inl ⟨by rfl, ?_⟩) ?_ ?_
            rotate_left
            · intro w'; go_simp; with_reducible rfl
            rotate_left
            · simp only [Act.put, List.setIfInBounds_toArray, List.set_cons_zero, List.set_cons_succ, i64_w, i32_w]; rfl
            refine one_ (i := 9) (N := some 9) (bm 12 1023) rfl rfl (by kernel_rfl) (by decide) (fun K hK => ?_)
            refine value_ (v := .pointer (some ⟨wn.heap.size, 0, none⟩)) (w1 := wn.alloc (.cells #[.int .i64 0, .int .i64 0, .int .i64 0, .int .i64 0, .int .u64 0, .slice none 0 0, .slice none 0 0] 68)) (by rfl) rfl ?_ ?_
            · go_simp
            have hb2 := below_alloc (Below.refl wn.heap.size wn) (.cells #[.int .i64 0, .int .i64 0, .int .i64 0, .int .i64 0, .int .u64 0, .slice none 0 0, .slice none 0 0] 68)
            have hx3 := blk_below hx2 hb2
            have he3 := he2.below hb2
            refine hK.out _ _ ⟨(blk_cell hx3 0).trans rfl, (blk_cell hx3 1).trans rfl, (blk_cell hx3 2).trans rfl, (blk_cell hx3 3).trans rfl, (blk_cell hx3 4).trans rfl, (blk_cell hx3 5).trans rfl, (blk_cell hx3 6).trans rfl, he3.1, he3.2.1, he3.2.2.1, he3.2.2.2.1, he3.2.2.2.2.1, he3.2.2.2.2.2.1, he3.2.2.2.2.2.2, trivial⟩ (fun hHeld => ?_)
            exact J (wn.heap.size, A2, C2, L2) _ ⟨hb.size, heap_alloc_new _ _, hrs.below hb2, hb.trans (hb2.mono hb.size)⟩
          ·
            refine value_ (v := .pointer (some ⟨wa.heap.size, 0, none⟩)) (w1 := wa.alloc (.cells #[.int .i64 0, .int .i64 0, .int .i64 0, .int .i64 0, .int .u64 0, .slice none 0 0, .slice none 0 0] 68)) (by rfl) rfl ?_ ?_
            · go_simp
            have hb2 := below_alloc (Below.refl wa.heap.size wa) (.cells #[.int .i64 0, .int .i64 0, .int .i64 0, .int .i64 0, .int .u64 0, .slice none 0 0, .slice none 0 0] 68)
            have hN := heap_alloc_new wa (.cells #[.int .i64 0, .int .i64 0, .int .i64 0, .int .i64 0, .int .u64 0, .slice none 0 0, .slice none 0 0] 68)
            have hx3 := blk_below HX.out hb2
            have he3 := HEV.out.below hb2
            refine hK.out _ _ ⟨(blk_cell hx3 0).trans rfl, (blk_cell hx3 1).trans rfl, (blk_cell hx3 2).trans rfl, (blk_cell hx3 3).trans rfl, (blk_cell hx3 4).trans rfl, (blk_cell hx3 5).trans rfl, (blk_cell hx3 6).trans rfl, he3.1, he3.2.1, he3.2.2.1, he3.2.2.2.1, he3.2.2.2.2.1, he3.2.2.2.2.2.1, he3.2.2.2.2.2.2, trivial⟩ (fun hHeld => ?_)
            generalize wa.alloc (.cells #[.int .i64 0, .int .i64 0, .int .i64 0, .int .i64 0, .int .u64 0, .slice none 0 0, .slice none 0 0] 68) = wq at *
            clear hK K
            refine norm_ (a' := ?_) ?_ ?_
            rotate_left
            · show Act.put _ (some 9) _ = _
              simp only [Act.put, List.setIfInBounds_toArray, List.set_cons_zero, List.set_cons_succ, i64_w, i32_w]
              rfl
            refine one_ (i := 5) (N := some 52) (bm 12 575) rfl rfl (by kernel_rfl) (by decide) (fun K hK => ?_)
            refine goes_ Tryd.func35 (by kernel_rfl) rfl #[.agg #[.int .i64 v, .int .i64 wd, .int .i64 cp, .int .i64 pr, .int .u64 sa, .slice A up.length C, .slice A' L'.length C'], .agg #[.int .i64 e.kind, .int .i64 e.thread, .int .i64 e.op, .int .i64 e.n, .int .u64 e.pos, .int .i64 e.code, .slice Bd e.data.length bc]] (by rfl) rfl rfl (by (try simp only [List.map_toArray, List.map_cons, List.map_nil]); first | done | rfl) ?_
            with_reducible refine (rapply0 w.heap.size wq v wd cp pr sa A C up A' C' L' cx sti i (HRS.out.below hb2) HI200.out (Nat.le_trans HSZ.out hb2.size) e Bd bc HEK.out.2.1 HEK.out.1 HDL.out HDC.out (Kd.F_below HHB.out hb2)).mono ?_
            rintro q wn ⟨⟨A2, C2, L2, rfl, hrs, hb⟩⟩
            refine ⟨_, rfl, ?_⟩
            have hx2 := blk_below hx3 hb
            have he2 := EvAt.below he3 hb
            refine hK.out _ _ ⟨(blk_cell hx2 0).trans rfl, (blk_cell hx2 1).trans rfl, (blk_cell hx2 2).trans rfl, (blk_cell hx2 3).trans rfl, (blk_cell hx2 4).trans rfl, (blk_cell hx2 5).trans rfl, (blk_cell hx2 6).trans rfl, he2.1, he2.2.1, he2.2.2.1, he2.2.2.2.1, he2.2.2.2.2.1, he2.2.2.2.2.2.1, he2.2.2.2.2.2.2, trivial⟩ (fun hHeld => ?_)
            clear hK K
            refine norm_ (a' := ?_) ?_ ?_
            rotate_left
            · show Act.put _ (some 52) _ = _
              simp only [Act.put, List.setIfInBounds_toArray, List.set_cons_zero, List.set_cons_succ, i64_w, i32_w]
              rfl
            refine pure_ (i := 6) (N := some 46) (v := ?_) (a' := ?_) (bm 12 639) rfl rfl (by kernel_rfl) (fun _ _ _ h => h) (Or.inl ⟨by rfl, ?_⟩) ?_ ?_
            rotate_left
            · intro w'; go_simp; with_reducible rfl
            rotate_left
            · simp only [Act.put, List.setIfInBounds_toArray, List.set_cons_zero, List.set_cons_succ, i64_w, i32_w]; rfl
            refine pure_ (i := 7) (N := some 53) (v := ?_) (a' := ?_) (bm 12 767) rfl rfl (by kernel_rfl) (fun _ _ _ h => h) (Or.inl ⟨by rfl, ?_⟩) ?_ ?_
            rotate_left
            · intro w'; go_simp; with_reducible rfl
            rotate_left
            · simp only [Act.put, List.setIfInBounds_toArray, List.set_cons_zero, List.set_cons_succ, i64_w, i32_w]; rfl
            refine pure_ (i := 8) (N := some 54) (v := ?_) (a' := ?_) (bm 12 1023) rfl rfl (by kernel_rfl) (fun _ _ _ h => h) (Or.inl ⟨by rfl, ?_⟩) ?_ ?_
            rotate_left
            · intro w'; go_simp; with_reducible rfl
            rotate_left
            · simp only [Act.put, List.setIfInBounds_toArray, List.set_cons_zero, List.set_cons_succ, i64_w, i32_w]; rfl
            exact J (wa.heap.size, A2, C2, L2) _ ⟨Nat.le_refl _, blk_below hN hb, hrs, hb2.trans (hb.mono hb2.size)⟩
        case cont =>
          obtain ⟨b, A2, C2, L2⟩ := s
          obtain ⟨hF1, hF2, hF3, hF4⟩ := hF
          simp only at hF1 hF2 hF3
          obtain ⟨w8, hw8, hR8, hb8, hB8⟩ := box7 hF3 hF2 hF4 hF1 (Nat.le_trans HSZ.out hF1) (.int .i64 v) (.int .i64 wd) (.int .i64 cp) (.int .i64 pr) (.int .u64 sa) (.slice A up.length C) (.slice A2 L2.length C2)
          obtain ⟨d0, d1, d2, d3, d4, d5, d6⟩ := cell7 hF2
          have fz0 := blk_frozen hF2 0
          have fz1 := blk_frozen hF2 1
          have fz2 := blk_frozen hF2 2
          have fz3 := blk_frozen hF2 3
          have fz4 := blk_frozen hF2 4
          have fz5 := blk_frozen hF2 5
          have fz6 := blk_frozen hF2 6
          refine norm_ (a' := ?_) ?_ ?_
          rotate_left
          · simp only [putAll, Act.put, List.setIfInBounds_toArray, List.set_cons_zero, List.set_cons_succ, i64_w, i32_w]
            rfl
          refine last_ (i := 10) (N := none) (bm 12 2047) rfl rfl (by kernel_rfl) (by decide) (fun K hK => ?_)
          refine skip_ (w1 := ?_) (by rfl) rfl ?_ ?_
          rotate_left
          · go_simp
            rfl
          refine hK.out _ _ ?_
          clear hK K
          rw [← hw8]
          refine pure_ (i := 11) (N := some 10) (v := ?_) (a' := ?_) (bm 12 4095) rfl rfl (by kernel_rfl) (fun _ _ _ h => h) (Or.inl ⟨by rfl, ?_⟩) ?_ ?_
          rotate_left
          · intro w'; go_simp; with_reducible rfl
          rotate_left
          · simp only [Act.put, List.setIfInBounds_toArray, List.set_cons_zero, List.set_cons_succ, i64_w, i32_w]; rfl
          refine done_ (by kernel_rfl) ?_
          have HX8 := Aside.mk (blk_below HX.out hB8)
          have HR8 := Aside.mk hR8
          have HB8 := Aside.mk hB8
          have Hb8 := Aside.mk hb8
          clear hw8 hR8 hb8 hB8 hF1 hF2 hF3 hF4 d0 d1 d2 d3 d4 d5 d6 fz0 fz1 fz2 fz3 fz4 fz5 fz6
          obtain ⟨x0, x1, x2, x3, x4, x5, x6⟩ := cell7 HX8.out
          obtain ⟨d0, d1, d2, d3, d4, d5, d6⟩ := cell7 Hb8.out
          have fz0 := blk_frozen HX8.out 0
          have fz1 := blk_frozen HX8.out 1
          have fz2 := blk_frozen HX8.out 2
          have fz3 := blk_frozen HX8.out 3
          have fz4 := blk_frozen HX8.out 4
          have fz5 := blk_frozen HX8.out 5
          have fz6 := blk_frozen HX8.out 6
          go_upto_region 14 with (fail)
          obtain ⟨w9, hw9, hR9, hM9, hx9, hB9⟩ := box7m (w0 := w) HR8.out ((HMM.out.below HD.out).below HB8.out) HX8.out (HWB.out.trans ((HD.out.trans (HB8.out.mono HD.out.size)).mono HWB.out.size)) HXG.out HXG.out HXL.out (.int .i64 v) (.int .i64 wd) (.int .i64 cp) (.int .i64 pr) (.int .u64 sa) (.slice A up.length C) (.slice A2 L2.length C2)
          rw [← hw9]
          have HR9 := Aside.mk hR9
          have HX9 := Aside.mk hx9
          have HB9 := Aside.mk hB9
          have HM9 := Aside.mk hM9
          clear hw9 hR9 hx9 hB9 hM9 x0 x1 x2 x3 x4 x5 x6 d0 d1 d2 d3 d4 d5 d6 fz0 fz1 fz2 fz3 fz4 fz5 fz6 HX HRS HR8 HX8 HB8 Hb8 HMM HEV HHB HWB HD HSZ
          have HGD := Aside.mk (fun (hc : code cx sti e = 0) => (show Good cx (next cx sti e) from by
            have h1 := HR9.out.v.good (by have := HI200.out; omega)
            unfold step at h1
            rw [if_pos hc] at h1
            exact h1))
          have HAP := Aside.mk (fun (W : World) (b : Below w9.heap.size w9 W) => papply w W (HB9.out.trans (b.mono HB9.out.size)) B k cx sti (HM9.out.below b) e Bd bc HEK.out.1 HEK.out.2.2.2 (HDF.out W k sti (HB9.out.trans (b.mono HB9.out.size)) (HM9.out.below b)) HDL.out HGD.out)
          have hcc : (code cx sti e != code cx sti e) = false := by simp
          clear HGD HDF
          generalize hsp : step cx sti e = sp at *
          have HSP := Aside.mk hsp
          clear hsp
          refine start_ (n := 31) (S := fun w' => w'.cell? ⟨X, 0, none⟩ = some (.int .i64 v) ∧ w'.cell? ⟨X, 1, none⟩ = some (.int .i64 wd) ∧ w'.cell? ⟨X, 2, none⟩ = some (.int .i64 cp) ∧ w'.cell? ⟨X, 3, none⟩ = some (.int .i64 pr) ∧ w'.cell? ⟨X, 4, none⟩ = some (.int .u64 sa) ∧ w'.cell? ⟨X, 5, none⟩ = some (.slice A up.length C) ∧ w'.cell? ⟨X, 6, none⟩ = some (.slice A2 L2.length C2) ∧ w'.cell? (ad.add (i * 7)) = some (.int .i64 e.kind) ∧ w'.cell? ⟨(ad.add (i * 7)).block, (ad.add (i * 7)).off + 1, none⟩ = some (.int .i64 e.thread) ∧ w'.cell? ⟨(ad.add (i * 7)).block, (ad.add (i * 7)).off + 2, none⟩ = some (.int .i64 e.op) ∧ w'.cell? ⟨(ad.add (i * 7)).block, (ad.add (i * 7)).off + 3, none⟩ = some (.int .i64 e.n) ∧ w'.cell? ⟨(ad.add (i * 7)).block, (ad.add (i * 7)).off + 4, none⟩ = some (.int .u64 e.pos) ∧ w'.cell? ⟨(ad.add (i * 7)).block, (ad.add (i * 7)).off + 5, none⟩ = some (.int .i64 e.code) ∧ w'.cell? ⟨(ad.add (i * 7)).block, (ad.add (i * 7)).off + 6, none⟩ = some (.slice Bd e.data.length bc) ∧ True) (ds := []) (bm 31 0) (by kernel_rfl) rfl rfl ⟨(blk_cell (blk_drew HX9.out) 0).trans rfl, (blk_cell (blk_drew HX9.out) 1).trans rfl, (blk_cell (blk_drew HX9.out) 2).trans rfl, (blk_cell (blk_drew HX9.out) 3).trans rfl, (blk_cell (blk_drew HX9.out) 4).trans rfl, (blk_cell (blk_drew HX9.out) 5).trans rfl, (blk_cell (blk_drew HX9.out) 6).trans rfl, (HEW.out _ (HB9.out.trans ((below_drew1 (Below.refl _ _)).mono HB9.out.size))).1, (HEW.out _ (HB9.out.trans ((below_drew1 (Below.refl _ _)).mono HB9.out.size))).2.1, (HEW.out _ (HB9.out.trans ((below_drew1 (Below.refl _ _)).mono HB9.out.size))).2.2.1, (HEW.out _ (HB9.out.trans ((below_drew1 (Below.refl _ _)).mono HB9.out.size))).2.2.2.1, (HEW.out _ (HB9.out.trans ((below_drew1 (Below.refl _ _)).mono HB9.out.size))).2.2.2.2.1, (HEW.out _ (HB9.out.trans ((below_drew1 (Below.refl _ _)).mono HB9.out.size))).2.2.2.2.2.1, (HEW.out _ (HB9.out.trans ((below_drew1 (Below.refl _ _)).mono HB9.out.size))).2.2.2.2.2.2, trivial⟩ (fun hHeld => ?_)
          have hbd := below_drew1 (Below.refl w9.heap.size w9)
          replace HX9 := Aside.mk (blk_drew HX9.out)
          replace HR9 := Aside.mk (HR9.out.below hbd)
          replace HM9 := Aside.mk (HM9.out.below hbd)
          replace HB9 := Aside.mk (HB9.out.trans (hbd.mono HB9.out.size))
          replace HAP := Aside.mk (HAP.out _ hbd)
          clear hbd
          generalize w9.drew = wa2 at *
          refine pure_ (i := 0) (N := some 56) (v := ?_) (a' := ?_) (bm 31 1) rfl rfl (by kernel_rfl) (fun _ _ _ h => h) (Or.inl ⟨by rfl, ?_⟩) ?_ ?_
          rotate_left
          · intro w'; go_simp; with_reducible rfl
          rotate_left
          · simp only [Act.put, List.setIfInBounds_toArray, List.set_cons_zero, List.set_cons_succ, i64_w, i32_w]; rfl
          refine pure_ (i := 1) (N := some 57) (v := ?_) (a' := ?_) (bm 31 3) rfl rfl (by kernel_rfl) (fun _ _ _ h => h) (Or.inl ⟨by rfl, ?_⟩) ?_ ?_
          rotate_left
          · intro w'; go_simp; with_reducible rfl
          rotate_left
          · simp only [Act.put, List.setIfInBounds_toArray, List.set_cons_zero, List.set_cons_succ, i64_w, i32_w]; rfl
          refine pure_ (i := 2) (N := some 58) (v := ?_) (a' := ?_) (bm 31 7) rfl rfl (by kernel_rfl) (fun _ _ _ h => h) (Or.inl ⟨by rfl, ?_⟩) ?_ ?_
          rotate_left
          · intro w'; go_simp; with_reducible rfl
          rotate_left
          · simp only [Act.put, List.setIfInBounds_toArray, List.set_cons_zero, List.set_cons_succ, i64_w, i32_w]; rfl
          refine pure_ (i := 3) (N := some 59) (v := ?_) (a' := ?_) (bm 31 15) rfl rfl (by kernel_rfl) (fun _ _ _ h => h) (Or.inl ⟨by rfl, ?_⟩) ?_ ?_
          rotate_left
          · intro w'; go_simp; with_reducible rfl
          rotate_left
          · simp only [Act.put, List.setIfInBounds_toArray, List.set_cons_zero, List.set_cons_succ, i64_w, i32_w]; rfl
          refine take_ (i := 4) (N := some 60) (v := ?_) (a' := ?_) (bm 31 31) rfl rfl (by kernel_rfl) (fun _ _ _ h => h) (Or.inl ⟨by rfl, ?_⟩) hHeld ?_ ?_
          rotate_left
          · rintro w' ⟨s0, s1, s2, s3, s4, s5, s6, s7, s8, s9, s10, s11, s12, s13, s14⟩; go_simp; with_reducible rfl
          rotate_left
          · simp only [Act.put, List.setIfInBounds_toArray, List.set_cons_zero, List.set_cons_succ, i64_w, i32_w]; rfl
          refine pure_ (i := 6) (N := some 62) (v := ?_) (a' := ?_) (bm 31 95) rfl rfl (by kernel_rfl) (fun _ _ _ h => h) (Or.inl ⟨by rfl, ?_⟩) ?_ ?_
          rotate_left
          · intro w'; go_simp; with_reducible rfl
          rotate_left
          · simp only [Act.put, List.setIfInBounds_toArray, List.set_cons_zero, List.set_cons_succ, i64_w, i32_w]; rfl
          refine one_ (i := 5) (N := some 61) (bm 31 127) rfl rfl (by kernel_rfl) (by decide) (fun K hK => ?_)
          refine goes_ Tryd.func29 (by kernel_rfl) rfl #[.pointer (some ⟨B, 0, none⟩), .agg #[.int .i64 e.kind, .int .i64 e.thread, .int .i64 e.op, .int .i64 e.n, .int .u64 e.pos, .int .i64 e.code, .slice Bd e.data.length bc]] (by rfl) rfl rfl (by (try simp only [List.map_toArray, List.map_cons, List.map_nil]); first | done | rfl) ?_
          refine HAP.out.mono ?_
          intro qr wb2 hp
          have HPP := Aside.mk hp.m
          have hv := hp.v
          clear hp HAP
          subst hv
          refine ⟨_, rfl, ?_⟩
          have hps : MPost w wa2 B k cx sp wb2 := by rw [← HSP.out]; unfold step; exact HPP.out
          obtain ⟨k', hM, hT, _⟩ := hps
          have HR10 := Aside.mk (HR9.out.kept HM9.out hT)
          have HX10 := Aside.mk ((hT.p X (blk_lt HX9.out) (notOwnP HM9.out HX9.out (by decide))).trans HX9.out)
          have HB10 := Aside.mk hT.b
          have HM10 := Aside.mk hM
          clear HPP hM hT HR9 HX9 HB9 HM9
          generalize code cx sti e = cod at *
          refine hK.out _ _ ⟨(blk_cell HX10.out 0).trans rfl, (blk_cell HX10.out 1).trans rfl, (blk_cell HX10.out 2).trans rfl, (blk_cell HX10.out 3).trans rfl, (blk_cell HX10.out 4).trans rfl, (blk_cell HX10.out 5).trans rfl, (blk_cell HX10.out 6).trans rfl, (HEW.out _ HB10.out).1, (HEW.out _ HB10.out).2.1, (HEW.out _ HB10.out).2.2.1, (HEW.out _ HB10.out).2.2.2.1, (HEW.out _ HB10.out).2.2.2.2.1, (HEW.out _ HB10.out).2.2.2.2.2.1, (HEW.out _ HB10.out).2.2.2.2.2.2, trivial⟩ (fun hHeld => ?_)
          clear hK K
          refine norm_ (a' := ?_) ?_ ?_
          rotate_left
          · show Act.put _ (some 61) _ = _
            simp only [Act.put, List.setIfInBounds_toArray, List.set_cons_zero, List.set_cons_succ, i64_w, i32_w]
            rfl
          refine pure_ (i := 7) (N := some 63) (v := ?_) (a' := ?_) (bm 31 255) rfl rfl (by kernel_rfl) (fun _ _ _ h => h) (Or.inl ⟨by rfl, ?_⟩) ?_ ?_
          rotate_left
          · intro w'; go_simp; with_reducible rfl
          rotate_left
          · simp only [Act.put, List.setIfInBounds_toArray, List.set_cons_zero, List.set_cons_succ, i64_w, i32_w]; rfl
          refine pure_ (i := 8) (N := some 64) (v := ?_) (a' := ?_) (bm 31 511) rfl rfl (by kernel_rfl) (fun _ _ _ h => h) (Or.inl ⟨by rfl, ?_⟩) ?_ ?_
          rotate_left
          · intro w'; go_simp; with_reducible rfl
          rotate_left
          · simp only [Act.put, List.setIfInBounds_toArray, List.set_cons_zero, List.set_cons_succ, i64_w, i32_w]; rfl
          refine pure_ (i := 9) (N := some 65) (v := ?_) (a' := ?_) (bm 31 1023) rfl rfl (by kernel_rfl) (fun _ _ _ h => h) (Or.inl ⟨by rfl, ?_⟩) ?_ ?_
          rotate_left
          · intro w'; go_simp; with_reducible rfl
          rotate_left
          · simp only [Act.put, List.setIfInBounds_toArray, List.set_cons_zero, List.set_cons_succ, i64_w, i32_w]; rfl
          refine take_ (i := 10) (N := some 66) (v := ?_) (a' := ?_) (bm 31 2047) rfl rfl (by kernel_rfl) (fun _ _ _ h => h) (Or.inl ⟨by rfl, ?_⟩) hHeld ?_ ?_
          rotate_left
          · rintro w' ⟨s0, s1, s2, s3, s4, s5, s6, s7, s8, s9, s10, s11, s12, s13, s14⟩; go_simp; with_reducible rfl
          rotate_left
          · simp only [Act.put, List.setIfInBounds_toArray, List.set_cons_zero, List.set_cons_succ, i64_w, i32_w]; rfl
          refine one_ (i := 11) (N := some 67) (bm 31 4095) rfl rfl (by kernel_rfl) (by decide) (fun K hK => ?_)
          refine goes_ Tryd.func36 (by kernel_rfl) rfl #[.pointer (some ⟨B, 0, none⟩), .agg #[.int .i64 v, .int .i64 wd, .int .i64 cp, .int .i64 pr, .int .u64 sa, .slice A up.length C, .slice A2 L2.length C2]] (by rfl) rfl rfl (by (try simp only [List.map_toArray, List.map_cons, List.map_nil]); first | done | rfl) ?_
          refine (alike_ wb2 B k' (mk0 v wd cp pr sa A C up A2 C2 L2) up cx sp HM10.out.r HR10.out.ok).mono ?_
          rintro qr wc2 ⟨rfl, hb⟩
          refine ⟨_, rfl, ?_⟩
          replace HX10 := Aside.mk (blk_below HX10.out hb)
          replace HR10 := Aside.mk (HR10.out.below hb)
          replace HM10 := Aside.mk (HM10.out.below hb)
          replace HB10 := Aside.mk (HB10.out.trans (hb.mono HB10.out.size))
          clear hb
          refine hK.out _ _ ⟨(blk_cell HX10.out 0).trans rfl, (blk_cell HX10.out 1).trans rfl, (blk_cell HX10.out 2).trans rfl, (blk_cell HX10.out 3).trans rfl, (blk_cell HX10.out 4).trans rfl, (blk_cell HX10.out 5).trans rfl, (blk_cell HX10.out 6).trans rfl, (HEW.out _ HB10.out).1, (HEW.out _ HB10.out).2.1, (HEW.out _ HB10.out).2.2.1, (HEW.out _ HB10.out).2.2.2.1, (HEW.out _ HB10.out).2.2.2.2.1, (HEW.out _ HB10.out).2.2.2.2.2.1, (HEW.out _ HB10.out).2.2.2.2.2.2, trivial⟩ (fun hHeld => ?_)
          clear hK K
          refine norm_ (a' := ?_) ?_ ?_
          rotate_left
          · show Act.put _ (some 67) _ = _
            simp only [Act.put, List.setIfInBounds_toArray, List.set_cons_zero, List.set_cons_succ, i64_w, i32_w]
            rfl
          refine pure_ (i := 12) (N := some 68) (v := ?_) (a' := ?_) (bm 31 8191) rfl rfl (by kernel_rfl) (fun _ _ _ h => h) (Or.inl ⟨by rfl, ?_⟩) ?_ ?_
          rotate_left
          · intro w'; go_simp; with_reducible rfl
          rotate_left
          · simp only [Act.put, List.setIfInBounds_toArray, List.set_cons_zero, List.set_cons_succ, i64_w, i32_w]; rfl
          refine pure_ (i := 13) (N := some 69) (v := ?_) (a' := ?_) (bm 31 16383) rfl rfl (by kernel_rfl) (fun _ _ _ h => h) (Or.inl ⟨by rfl, ?_⟩) ?_ ?_
          rotate_left
          · intro w'; go_simp; with_reducible rfl
          rotate_left
          · simp only [Act.put, List.setIfInBounds_toArray, List.set_cons_zero, List.set_cons_succ, i64_w, i32_w]; rfl
          refine pure_ (i := 14) (N := some 70) (v := ?_) (a' := ?_) (bm 31 32767) rfl rfl (by kernel_rfl) (fun _ _ _ h => h) (Or.inl ⟨by rfl, ?_⟩) ?_ ?_
          rotate_left
          · intro w'; go_simp; with_reducible rfl
          rotate_left
          · simp only [Act.put, List.setIfInBounds_toArray, List.set_cons_zero, List.set_cons_succ, i64_w, i32_w]; rfl
          refine pure_ (i := 15) (N := some 71) (v := ?_) (a' := ?_) (bm 31 65535) rfl rfl (by kernel_rfl) (fun _ _ _ h => h) (Or.inl ⟨by rfl, ?_⟩) ?_ ?_
          rotate_left
          · intro w'; go_simp; with_reducible rfl
          rotate_left
          · simp only [Act.put, List.setIfInBounds_toArray, List.set_cons_zero, List.set_cons_succ, i64_w, i32_w]; rfl
          refine pure_ (i := 16) (N := some 72) (v := ?_) (a' := ?_) (bm 31 131071) rfl rfl (by kernel_rfl) (fun _ _ _ h => h) (Or.inl ⟨by rfl, ?_⟩) ?_ ?_
          rotate_left
          · intro w'; go_simp; with_reducible rfl
          rotate_left
          · simp only [Act.put, List.setIfInBounds_toArray, List.set_cons_zero, List.set_cons_succ, i64_w, i32_w]; rfl
          refine pure_ (i := 17) (N := some 73) (v := ?_) (a' := ?_) (bm 31 262143) rfl rfl (by kernel_rfl) (fun _ _ _ h => h) (Or.inl ⟨by rfl, ?_⟩) ?_ ?_
          rotate_left
          · intro w'; go_simp; with_reducible rfl
          rotate_left
          · simp only [Act.put, List.setIfInBounds_toArray, List.set_cons_zero, List.set_cons_succ, i64_w, i32_w]; rfl
          refine pure_ (i := 18) (N := some 74) (v := ?_) (a' := ?_) (bm 31 524287) rfl rfl (by kernel_rfl) (fun _ _ _ h => h) (Or.inl ⟨by rfl, ?_⟩) ?_ ?_
          rotate_left
          · intro w'; go_simp; with_reducible rfl
          rotate_left
          · simp only [Act.put, List.setIfInBounds_toArray, List.set_cons_zero, List.set_cons_succ, i64_w, i32_w]; rfl
          refine pure_ (i := 19) (N := some 75) (v := ?_) (a' := ?_) (bm 31 1048575) rfl rfl (by kernel_rfl) (fun _ _ _ h => h) (Or.inl ⟨by rfl, ?_⟩) ?_ ?_
          rotate_left
          · intro w'; go_simp; with_reducible rfl
          rotate_left
          · simp only [Act.put, List.setIfInBounds_toArray, List.set_cons_zero, List.set_cons_succ, i64_w, i32_w]; rfl
          refine take_ (i := 20) (N := some 76) (v := ?_) (a' := ?_) (bm 31 2097151) rfl rfl (by kernel_rfl) (fun _ _ _ h => h) (Or.inl ⟨by rfl, ?_⟩) hHeld ?_ ?_
          rotate_left
          · rintro w' ⟨s0, s1, s2, s3, s4, s5, s6, s7, s8, s9, s10, s11, s12, s13, s14⟩; go_simp; with_reducible rfl
          rotate_left
          · simp only [Act.put, List.setIfInBounds_toArray, List.set_cons_zero, List.set_cons_succ, i64_w, i32_w]; rfl
          refine take_ (i := 22) (N := some 78) (v := ?_) (a' := ?_) (bm 31 6291455) rfl rfl (by kernel_rfl) (fun _ _ _ h => h) (Or.inl ⟨by rfl, ?_⟩) hHeld ?_ ?_
          rotate_left
          · rintro w' ⟨s0, s1, s2, s3, s4, s5, s6, s7, s8, s9, s10, s11, s12, s13, s14⟩; go_simp; with_reducible rfl
          rotate_left
          · simp only [Act.put, List.setIfInBounds_toArray, List.set_cons_zero, List.set_cons_succ, i64_w, i32_w]; rfl
          refine pure_ (i := 23) (N := some 79) (v := ?_) (a' := ?_) (bm 31 14680063) rfl rfl (by kernel_rfl) (fun _ _ _ h => h) (Or.inl ⟨by rfl, ?_⟩) ?_ ?_
          rotate_left
          · intro w'; go_simp; with_reducible rfl
          rotate_left
          · simp only [Act.put, List.setIfInBounds_toArray, List.set_cons_zero, List.set_cons_succ, i64_w, i32_w]; rfl
          refine pure_ (i := 24) (N := some 80) (v := ?_) (a' := ?_) (bm 31 31457279) rfl rfl (by kernel_rfl) (fun _ _ _ h => h) (Or.inl ⟨by rfl, ?_⟩) ?_ ?_
          rotate_left
          · intro w'; go_simp; with_reducible rfl
          rotate_left
          · simp only [Act.put, List.setIfInBounds_toArray, List.set_cons_zero, List.set_cons_succ, i64_w, i32_w]; rfl
          refine pure_ (i := 25) (N := some 81) (v := ?_) (a' := ?_) (bm 31 65011711) rfl rfl (by kernel_rfl) (fun _ _ _ h => h) (Or.inl ⟨by rfl, ?_⟩) ?_ ?_
          rotate_left
          · intro w'; go_simp; with_reducible rfl
          rotate_left
          · simp only [Act.put, List.setIfInBounds_toArray, List.set_cons_zero, List.set_cons_succ, i64_w, i32_w]; rfl
          refine pure_ (i := 26) (N := some 82) (v := ?_) (a' := ?_) (bm 31 132120575) rfl rfl (by kernel_rfl) (fun _ _ _ h => h) (Or.inl ⟨by rfl, ?_⟩) ?_ ?_
          rotate_left
          · intro w'; go_simp; with_reducible rfl
          rotate_left
          · simp only [Act.put, List.setIfInBounds_toArray, List.set_cons_zero, List.set_cons_succ, i64_w, i32_w]; rfl
          refine take_ (i := 27) (N := some 83) (v := ?_) (a' := ?_) (bm 31 266338303) rfl rfl (by kernel_rfl) (fun _ _ _ h => h) (Or.inl ⟨by rfl, ?_⟩) hHeld ?_ ?_
          rotate_left
          · rintro w' ⟨s0, s1, s2, s3, s4, s5, s6, s7, s8, s9, s10, s11, s12, s13, s14⟩; go_simp; with_reducible rfl
          rotate_left
          · simp only [Act.put, List.setIfInBounds_toArray, List.set_cons_zero, List.set_cons_succ, i64_w, i32_w]; rfl
          refine one_ (i := 21) (N := some 77) (bm 31 268435455) rfl rfl (by kernel_rfl) (by decide) (fun K hK => ?_)
          refine goes_ Tryd.func37 (by kernel_rfl) rfl #[.pointer (some ⟨B, 0, none⟩), .int .u64 e.pos] (by rfl) rfl rfl (by (try simp only [List.map_toArray, List.map_cons, List.map_nil]); first | done | rfl) ?_
          refine (pcount wc2 B k' cx sp HM10.out.r e.pos).mono ?_
          rintro qr wd2 ⟨rfl, hb⟩
          refine ⟨_, rfl, ?_⟩
          replace HX10 := Aside.mk (blk_below HX10.out hb)
          replace HR10 := Aside.mk (HR10.out.below hb)
          replace HM10 := Aside.mk (HM10.out.below hb)
          replace HB10 := Aside.mk (HB10.out.trans (hb.mono HB10.out.size))
          clear hb
          refine hK.out _ _ ⟨(blk_cell HX10.out 0).trans rfl, (blk_cell HX10.out 1).trans rfl, (blk_cell HX10.out 2).trans rfl, (blk_cell HX10.out 3).trans rfl, (blk_cell HX10.out 4).trans rfl, (blk_cell HX10.out 5).trans rfl, (blk_cell HX10.out 6).trans rfl, (HEW.out _ HB10.out).1, (HEW.out _ HB10.out).2.1, (HEW.out _ HB10.out).2.2.1, (HEW.out _ HB10.out).2.2.2.1, (HEW.out _ HB10.out).2.2.2.2.1, (HEW.out _ HB10.out).2.2.2.2.2.1, (HEW.out _ HB10.out).2.2.2.2.2.2, trivial⟩ (fun hHeld => ?_)
          clear hK K
          refine norm_ (a' := ?_) ?_ ?_
          rotate_left
          · show Act.put _ (some 77) _ = _
            simp only [Act.put, List.setIfInBounds_toArray, List.set_cons_zero, List.set_cons_succ, i64_w, i32_w]
            rfl
          refine one_ (i := 28) (N := some 84) (bm 31 536870911) rfl rfl (by kernel_rfl) (by decide) (fun K hK => ?_)
          refine goes_ Tryd.func38 (by kernel_rfl) rfl #[.agg #[.int .i64 v, .int .i64 wd, .int .i64 cp, .int .i64 pr, .int .u64 sa, .slice A up.length C, .slice A2 L2.length C2], .int .u64 e.pos] (by rfl) rfl rfl (by (try simp only [List.map_toArray, List.map_cons, List.map_nil]); first | done | rfl) ?_
          refine (count_c HR10.out.ok HEK.out.2.1).mono ?_
          rintro qr we2 ⟨rfl, hb⟩
          refine ⟨_, rfl, ?_⟩
          replace HX10 := Aside.mk (blk_below HX10.out hb)
          replace HR10 := Aside.mk (HR10.out.below hb)
          replace HM10 := Aside.mk (HM10.out.below hb)
          replace HB10 := Aside.mk (HB10.out.trans (hb.mono HB10.out.size))
          clear hb
          refine hK.out _ _ ⟨(blk_cell HX10.out 0).trans rfl, (blk_cell HX10.out 1).trans rfl, (blk_cell HX10.out 2).trans rfl, (blk_cell HX10.out 3).trans rfl, (blk_cell HX10.out 4).trans rfl, (blk_cell HX10.out 5).trans rfl, (blk_cell HX10.out 6).trans rfl, (HEW.out _ HB10.out).1, (HEW.out _ HB10.out).2.1, (HEW.out _ HB10.out).2.2.1, (HEW.out _ HB10.out).2.2.2.1, (HEW.out _ HB10.out).2.2.2.2.1, (HEW.out _ HB10.out).2.2.2.2.2.1, (HEW.out _ HB10.out).2.2.2.2.2.2, trivial⟩ (fun hHeld => ?_)
          clear hK K
          refine norm_ (a' := ?_) ?_ ?_
          rotate_left
          · show Act.put _ (some 84) _ = _
            simp only [Act.put, List.setIfInBounds_toArray, List.set_cons_zero, List.set_cons_succ, i64_w, i32_w]
            rfl
          have hcn : (cx.cnt sp.taken e.pos != cx.cnt sp.taken e.pos) = false := by simp
          refine pure_ (i := 29) (N := some 85) (v := ?_) (a' := ?_) (bm 31 1073741823) rfl rfl (by kernel_rfl) (fun _ _ _ h => h) (Or.inl ⟨by rfl, ?_⟩) ?_ ?_
          rotate_left
          · intro w'; go_simp; with_reducible rfl
          rotate_left
          · simp only [Act.put, List.setIfInBounds_toArray, List.set_cons_zero, List.set_cons_succ, i64_w, i32_w]; rfl
          refine pure_ (i := 30) (N := some 86) (v := ?_) (a' := ?_) (bm 31 2147483647) rfl rfl (by kernel_rfl) (fun _ _ _ h => h) (Or.inl ⟨by rfl, ?_⟩) ?_ ?_
          rotate_left
          · intro w'; go_simp; with_reducible rfl
          rotate_left
          · simp only [Act.put, List.setIfInBounds_toArray, List.set_cons_zero, List.set_cons_succ, i64_w, i32_w]; rfl
          refine done_ (by kernel_rfl) ?_
          clear hHeld hcc hcn
          go_wp2_with fail
          go_roundw
          case rel => exact ⟨i + 1, k', sp, by first | rfl | simp, HLT.out, ⟨⟨HM10.out, ⟨A2, C2, L2, HR10.out, HX10.out⟩, HB10.out⟩⟩⟩
          case measure =>
            simp only [intOf, tn1, Int.toNat_natCast]
            exact meas1 HLT.out
end Go.Proofs.YtnnfcdffnckoiaaDoor.Mo
