/- The walk of sakialaw29.ModelHolds: for every configuration and events the call returns true, and what was in memory stays. Asked: the library's table lies as laid. -/
import Derived.Test.YtnnfcdffnckoiaaDoorMoNew
import Derived.Test.YtnnfcdffnckoiaaDoorMoHi
set_option linter.unusedVariables false
set_option linter.unusedSimpArgs false
set_option maxRecDepth 100000
namespace Go.Proofs.YtnnfcdffnckoiaaDoor.Mo
open Go.RowKit Go.Proofs.YtnnfcdffnckoiaaDoorW.PrintWords Go.Proofs.YtnnfcdffnckoiaaDoorW.PrintLast Go.Proofs.YtnnfcdffnckoiaaDoorW.PrintMore
open Graph (checkG Fine Gv endsI ref_ends fine_of ends_some Tabled ends_okR row_at)
open QGc (checkC boundB)
open QCf (S44 k44)
theorem notOwn {base : Nat} {w : World} {B : Nat} {k : Mk} {cx : Cx} {st : St} (h : MM base w B k cx st) {q t : Nat} {cs : Array Value} (hb : w.heap[q]? = some (.cells cs t (0, 0))) (ht : t ≠ 100 ∧ t ≠ 62 ∧ t ≠ 4 ∧ t ≠ 3) : ¬ Own k B q := by
  intro ho
  rcases ho with e | e | e | e | e | e
  · rw [e] at hb
    exact blk_ne hb h.r.blk ht.1 rfl
  · exact (Kd.R_ne h.x.h hb (fun e => ht.2.1 e.symm)) e
  · exact (Kd.R_ne h.x.p hb (fun e => ht.2.2.1 e.symm)) e
  · exact (Kd.R_ne h.x.d hb (fun e => ht.2.2.2 e.symm)) e
  · exact (Kd.R_ne h.x.g hb (fun e => ht.2.2.2 e.symm)) e
  · exact (Kd.R_ne h.x.s hb (fun e => ht.2.2.2 e.symm)) e
/-- The model and the box of the configuration. -/
structure HW (w wr : World) (v wd cp pr sa : Int) (A : Option Addr) (C : Nat) (up : List (List Int)) (B : Nat) (k : Mk) (cx : Cx) (st : St) : Prop where
  b : Below w.heap.size w wr
  m : MM w.heap.size wr B k cx st
  x : wr.heap[w.heap.size]? = some (.cells #[.int .i64 v, .int .i64 wd, .int .i64 cp, .int .i64 pr, .int .u64 sa, .slice A up.length C] 25 (0, 0))
theorem HW.below {w wr wr' : World} {v wd cp pr sa : Int} {A : Option Addr} {C : Nat} {up : List (List Int)} {B : Nat} {k : Mk} {cx : Cx} {st : St} (h : HW w wr v wd cp pr sa A C up B k cx st) (b : Below wr.heap.size wr wr') : HW w wr' v wd cp pr sa A C up B k cx st := ⟨below_low b h.b, h.m.below b, blk_below h.x b⟩
theorem mulb {c p : Int} (hc : 1 ≤ c ∧ c ≤ 64) (hp : 1 ≤ p ∧ p ≤ 4) : 0 ≤ c * (1 + p) ∧ c * (1 + p) ≤ 320 := by
  obtain h | h | h | h : p = 1 ∨ p = 2 ∨ p = 3 ∨ p = 4 := by omega
  all_goals (subst h; omega)
theorem isZ_no {h : Hd} (e : h.g = true) : isZ h = false := by
  unfold isZ
  rw [e]
  simp
theorem row_atA {w : World} {A : Option Addr} {up : List (List Int)} (h : Kd.C (Kd.slice 3 (Kd.int .i64)) w A up.length up) (j : Nat) (hj : j < up.length) : ∃ ad A0 c0, A = some ad ∧ w.cell? (ad.add j) = some (.slice A0 (up.getD j []).length c0) ∧ (up.getD j []).length ≤ c0 ∧ (Kd.int .i64).C w A0 (up.getD j []).length (up.getD j []) := by
  obtain ⟨ad, A0, c0, hA, h1, h2, h3⟩ := row_at h j hj
  exact ⟨ad, A0, c0, hA, h1, h2, h3⟩
theorem rowNat {up : List (List Int)} {cx : Cx} (hu : up = cx.up.map ints) {j : Nat} (hj : j < cx.up.length) (n : Nat) (hn : n < (up.getD j []).length) : ∃ c : Nat, (up.getD j [])[n] = (c : Int) ∧ c ∈ cx.up.getD j [] ∧ ((∀ l ∈ cx.up, ∀ c ∈ l, c < cx.up.length) → c < cx.up.length) := by
  have e : up.getD j [] = ints (cx.up.getD j []) := by
    subst hu
    simp [hj]
  have hn2 : n < (cx.up.getD j []).length := by rw [e, ints_len] at hn; exact hn
  have hmem : cx.up.getD j [] ∈ cx.up := by rw [List.getD_eq_getElem?_getD, List.getElem?_eq_getElem hj]; exact List.getElem_mem hj
  refine ⟨(cx.up.getD j [])[n], ?_, List.getElem_mem hn2, fun hub => hub _ hmem _ (List.getElem_mem hn2)⟩
  simp only [e]
  simp [ints]
theorem held19 {w w' : World} {X : Nat} {ad ad2 : Addr} {j n : Nat} {u1 u2 u3 : Value} (b : Below w.heap.size w w') (h : w.cell? ⟨X, 5, none⟩ = some u1 ∧ w.cell? (ad.add j) = some u2 ∧ w.cell? (ad2.add n) = some u3 ∧ True) : w'.cell? ⟨X, 5, none⟩ = some u1 ∧ w'.cell? (ad.add j) = some u2 ∧ w'.cell? (ad2.add n) = some u3 ∧ True := by
  have go : ∀ {p : Addr} {v : Value}, w.cell? p = some v → w'.cell? p = some v := fun hp => (b.cell (World.block_lt_of_cell? _ _ hp)).trans hp
  exact ⟨go h.1, go h.2.1, go h.2.2.1, trivial⟩
theorem qgate {w : World} {B : Nat} {k : Mk} {cx : Cx} {st : St} (h : MR w B k cx st) {j : Nat} (hj : j < cx.up.length) {g : Int} (hg : g = st.gate.getD j 0) : Calls Tryd.prog 31 #[.pointer (some ⟨B, 0, none⟩), .int .i64 (j : Int)] w fun e w' => e = .returned (.int .i64 g) ∧ Below w.heap.size w w' := by
  subst hg
  exact pgate w B k cx st h j hj
theorem qsaw {w : World} {B : Nat} {k : Mk} {cx : Cx} {st : St} (h : MR w B k cx st) {j : Nat} (hj : j < cx.up.length) {g : Int} (hg : g = st.saw.getD j 0) : Calls Tryd.prog 32 #[.pointer (some ⟨B, 0, none⟩), .int .i64 (j : Int)] w fun e w' => e = .returned (.int .i64 g) ∧ Below w.heap.size w w' := by
  subst hg
  exact psaw w B k cx st h j hj
theorem qlimit {w : World} {B : Nat} {k : Mk} {cx : Cx} {st : St} (h : MR w B k cx st) {j : Nat} (hj : j < cx.up.length) {g : Int} (hg : g = limit cx st j) : Calls Tryd.prog 33 #[.pointer (some ⟨B, 0, none⟩), .int .i64 (j : Int)] w fun e w' => e = .returned (.int .i64 g) ∧ Below w.heap.size w w' := by
  subst hg
  exact plimit w B k cx st h j hj
set_option maxHeartbeats 16000000 in
theorem walkHolds (w : World) (v wd cp pr sa : Int) (A : Option Addr) (C : Nat) (up : List (List Int)) (hup : Kd.C (Kd.slice 3 (Kd.int .i64)) w A up.length up) (hC : up.length ≤ C) (hsa : U64 sa) (AE : Option Addr) (CE : Nat) (l0 : List S44) (hl : Kd.C k44 w AE l0.length l0) (hCE : l0.length ≤ CE) (hok : ∀ x ∈ l0, I64 x.f1 ∧ I64 x.f3 ∧ U64 x.f4) (hT : Tabled w) :
    Calls Tryd.prog 4 #[.agg #[.int .i64 v, .int .i64 wd, .int .i64 cp, .int .i64 pr, .int .u64 sa, .slice A up.length C], .slice AE l0.length CE] w fun r W => Yes w W r := by
  have hb0 := below_alloc (Below.refl w.heap.size w) (.cells #[.int .i64 v, .int .i64 wd, .int .i64 cp, .int .i64 pr, .int .u64 sa, .slice A up.length C] 25)
  obtain ⟨bs, hbs⟩ := evs_of hl
  obtain ⟨b1, hs1, hc1⟩ := long09 (Kd.C_below hup hb0) hC
  have HBS := Aside.mk hbs
  have HT := Aside.mk hT
  have HS1 := Aside.mk hs1
  have HC1 := Aside.mk hc1
  have HIN := Aside.mk (And.intro hup (And.intro hC (And.intro hsa (And.intro hl (And.intro hCE hok)))))
  have HB := Aside.mk hb0
  have HY := Aside.mk (heap_alloc_new w (.cells #[.int .i64 v, .int .i64 wd, .int .i64 cp, .int .i64 pr, .int .u64 sa, .slice A up.length C] 25))
  clear hb0 hbs hs1 hc1 hup hC hsa hl hCE hok hT
  go_enter Tryd.func4, Tryd.ntmps4
  go_upto_region 1 with (fail)
  generalize w.alloc (.cells #[.int .i64 v, .int .i64 wd, .int .i64 cp, .int .i64 pr, .int .u64 sa, .slice A up.length C] 25) = w2 at *
  obtain ⟨y0, y1, y2, y3, y4, y5⟩ := cell6 HY.out
  go_wp2_with fail
  refine HC1.out.mono ?_
  rintro r w3 ⟨rfl, hb⟩
  replace HB := Aside.mk (below_low hb HB.out)
  replace HY := Aside.mk (blk_below HY.out hb)
  clear hb HC1 y0 y1 y2 y3 y4 y5
  cases b1 with
  | true =>
    obtain ⟨y0, y1, y2, y3, y4, y5⟩ := cell6 HY.out
    go_wp2_with fail
    refine (live_ _ (HT.out.below HB.out)).mono ?_
    rintro r W ⟨rfl, hb⟩
    go_wp2
    go_ret
    exact ⟨rfl, below_low hb HB.out⟩
  | false =>
    have HSM := Aside.mk (HS1.out rfl)
    obtain ⟨b2, hs2, hc2⟩ := long15 100 (by decide) (w := w3) (Kd.C_below HIN.out.2.2.2.1 HB.out) HIN.out.2.2.2.2.1
    have HS2 := Aside.mk hs2
    have HC2 := Aside.mk hc2
    clear hs2 hc2
    obtain ⟨y0, y1, y2, y3, y4, y5⟩ := cell6 HY.out
    go_wp2_with fail
    refine HC2.out.mono ?_
    rintro r w4 ⟨rfl, hb⟩
    replace HB := Aside.mk (below_low hb HB.out)
    replace HY := Aside.mk (blk_below HY.out hb)
    clear hb HC2 y0 y1 y2 y3 y4 y5
    cases b2 with
    | true =>
      obtain ⟨y0, y1, y2, y3, y4, y5⟩ := cell6 HY.out
      go_wp2_with fail
      refine (live_ _ (HT.out.below HB.out)).mono ?_
      rintro r W ⟨rfl, hb⟩
      go_wp2
      go_ret
      exact ⟨rfl, below_low hb HB.out⟩
    | false =>
      have HSL := Aside.mk (HS2.out rfl)
      have HG := Aside.mk (show Gv w A C up from ⟨HIN.out.1, HIN.out.2.1, HSM.out⟩)
      clear HS1 HS2
      obtain ⟨y0, y1, y2, y3, y4, y5⟩ := cell6 HY.out
      go_wp2_with fail
      refine (right10 (HG.out.below HB.out)).mono ?_
      rintro r w5 ⟨rfl, hb⟩
      replace HB := Aside.mk (below_low hb HB.out)
      replace HY := Aside.mk (blk_below HY.out hb)
      clear hb y0 y1 y2 y3 y4 y5
      by_cases hck : checkC v wd cp pr up = 0
      rotate_left
      · have t1 : (checkC v wd cp pr up == 0) = false := by simpa using hck
        clear hck
        go_wp2_with fail
        refine (live_ _ (HT.out.below HB.out)).mono ?_
        rintro r W ⟨rfl, hb⟩
        go_wp2
        go_ret
        exact ⟨rfl, below_low hb HB.out⟩
      have t1 : (checkC v wd cp pr up == 0) = true := by rw [hck]; rfl
      have HCK := Aside.mk hck
      obtain ⟨cx, HCX⟩ : ∃ cx, Aside (CxOk v wd cp pr sa up cx) := ⟨_, ⟨cxOf_ok HSM.out hck⟩⟩
      have HNEW := Aside.mk (pnew w w5 HB.out v wd cp pr sa A C up (HG.out.below HB.out) hck HIN.out.2.2.1 (HT.out.below HB.out) cx HCX.out)
      clear hck
      obtain ⟨y0, y1, y2, y3, y4, y5⟩ := cell6 HY.out
      go_wp2_with fail
      refine HNEW.out.mono ?_
      rintro r w6 ⟨⟨B, k, rfl, hMM, hown, hb⟩⟩
      have HCX2 := HCX.out.lim B
      have hst0 : st0 cx = st0 { cx with lim := B } := rfl
      rw [hst0] at hMM
      clear HCX hst0 HNEW
      generalize { cx with lim := B } = cx at hMM HCX2
      have HCX := Aside.mk HCX2
      clear HCX2
      have HMM := Aside.mk hMM
      have HOW := Aside.mk (show ∀ q, Own k B q → w.heap.size ≤ q from fun q hq => Nat.le_trans HB.out.size (hown q hq))
      replace HB := Aside.mk (below_low hb HB.out)
      replace HY := Aside.mk (blk_below HY.out hb)
      clear hb hMM hown y0 y1 y2 y3 y4 y5 t1
      have HGV := HG
      go_wp2_with fail
      go_loopw [7] (fun x wr => ∃ (i : Nat) (k : Mk) (st : St) (L : List On), x = .int .i64 (i : Int) ∧ i ≤ l0.length ∧ Aside (HW w wr v wd cp pr sa A C up B k cx st) ∧ Aside (Inv cx st L i) ∧ Aside (Hi cx st)) (fun x _ => l0.length - (intOf x).toNat)
      case atStart => exact ⟨0, k, st0 cx, [], rfl, Nat.zero_le _, ⟨HB.out, HMM.out, HY.out⟩, ⟨Inv.zero HCX.out.c64.1⟩, ⟨Hi.zero cx HCX.out.en HCX.out.c64.1 HCX.out.eb⟩⟩
      case round =>
        clear HMM HOW HB HY
        obtain ⟨i, k, st, L, rfl, hi, HA, HI, HH⟩ := hrel
        by_cases hlt : i < l0.length
        rotate_left
        · have t1 : decide ((i : Int) < (l0.length : Int)) = false := decide_eq_false (by omega)
          have t2 : decide (i < l0.length) = false := decide_eq_false hlt
          clear hi hlt
          go_wp2_with fail
          refine (live_ _ (HT.out.below HA.out.b)).mono ?_
          rintro r W ⟨rfl, hb⟩
          go_wp2
          go_ret
          exact ⟨rfl, below_low hb HA.out.b⟩
        have t1 : decide ((i : Int) < (l0.length : Int)) = true := decide_eq_true (by omega)
        have t2 : decide (i < l0.length) = true := decide_eq_true hlt
        have t3 : (i : Int) < (l0.length : Int) := by omega
        have HLT := Aside.mk hlt
        have hm : i < (l0.map evOf).length := by rw [List.length_map]; exact hlt
        have HEO := Aside.mk (show EvOk ((l0.map evOf)[i]'hm) from by
          simp only [List.getElem_map]
          obtain ⟨h1, h2, h3⟩ := HIN.out.2.2.2.2.2 _ (List.getElem_mem hlt)
          exact ⟨h1, h2, h3, Nat.le_trans (HSL.out.2 _ (List.getElem_mem hlt)) (by decide)⟩)
        have ei := Mo.i1 (show i < 4611686018427387904 by have := HSL.out.1; omega)
        have HEV := Aside.mk (fun (W : World) (hW : Below w.heap.size w W) => HBS.out W (fun q hq => hW.block q hq) i hm)
        have HDF := Aside.mk (fun (W : World) (k' : Mk) (st' : St) (hW : Below w.heap.size w W) (hM : MM w.heap.size W B k' cx st') => (show Kd.F (Kd.int .i64) W (fun q => ¬ Own k' B q) (bs i).1 ((l0.map evOf)[i]'hm).data.length ((l0.map evOf)[i]'hm).data from fun W' hW' => by
          obtain ⟨_, _, _, _, h9⟩ := HBS.out W' (fun q hq => (hW' q (fun ho => by have := own_ge_ hM ho; omega) (Nat.lt_of_lt_of_le hq hW.size)).trans (hW.block q hq)) i hm
          exact h9))
        have HST := Aside.mk (step_hi (e := (l0.map evOf)[i]'hm) HI.out HH.out HCX.out.en HCX.out.c64 (by have := HSL.out.1; omega))
        generalize (l0.map evOf)[i]'hm = e at *
        generalize hbi : bs i = bi at *
        obtain ⟨Bd, bc⟩ := bi
        try simp only at HDF
        clear hi hlt hm hbi
        go_wp2_with fail
        clear t1 t2
        refine (ptaken _ B k cx st HA.out.m.r).mono ?_
        rintro r wa ⟨rfl, hb⟩
        replace HA := Aside.mk (HA.out.below hb)
        clear hb
        go_wp2_with fail
        refine (pprefix _ B k cx st HA.out.m.r).mono ?_
        rintro r wb ⟨rfl, hb⟩
        replace HA := Aside.mk (HA.out.below hb)
        clear hb
        go_wp2_with fail
        refine (pleast _ B k cx st HA.out.m.r).mono ?_
        rintro r wc ⟨rfl, hb⟩
        replace HA := Aside.mk (HA.out.below hb)
        clear hb
        have HAP := Aside.mk (papply w wc HA.out.b B k cx st HA.out.m e Bd bc HEO.out.1 HEO.out.2.1 (HDF.out wc k st HA.out.b HA.out.m) HEO.out.2.2.2 (fun hc => by
          obtain ⟨⟨L', hI'⟩, _⟩ := HST.out
          have h1 := hI'.good (by have := HLT.out; have := HSL.out.1; omega)
          unfold step at h1
          rw [if_pos hc] at h1
          exact h1))
        obtain ⟨ad, hAE, ⟨e0, e1, e2, e3, e4, e5, e6⟩, _, _⟩ := HEV.out wc HA.out.b
        try simp only at e6
        subst hAE
        go_wp2_with fail
        refine HAP.out.mono ?_
        intro r wd2 hp
        have HPP := Aside.mk hp.m
        have hv := hp.v
        clear hp HAP e0 e1 e2 e3 e4 e5 e6
        subst hv
        have hps : MPost w wc B k cx (step cx st e) wd2 := by unfold step; exact HPP.out
        obtain ⟨k', hM, hT, _⟩ := hps
        have HA2 := Aside.mk (show HW w wd2 v wd cp pr sa A C up B k' cx (step cx st e) from ⟨hT.b, hM, (hT.p _ (blk_lt HA.out.x) (notOwn HA.out.m HA.out.x (by decide))).trans HA.out.x⟩)
        obtain ⟨⟨L', hI'⟩, hH', hF'⟩ := HST.out
        have HI2 := Aside.mk hI'
        have HH2 := Aside.mk hH'
        have HF := Aside.mk hF'
        have HALL := Aside.mk (Hi.all hI'.wf hI'.lo hH' HCX.out.en HCX.out.c64.1)
        have HGD := Aside.mk (hI'.good (by have := HLT.out; have := HSL.out.1; omega))
        clear hM hT hI' hH' hF' HPP HST HDF HEV HEO
        generalize hst' : step cx st e = st' at *
        have HL0 := Aside.mk (show least st.gate cx.ends ≤ least st'.gate cx.ends from least_mono HCX.out.en HF.out.g)
        have HLB := Aside.mk (show 0 ≤ least st'.gate cx.ends ∧ least st'.gate cx.ends ≤ 100000 from least_bd HGD.out.gb cx.ends)
        clear hst' HA HI HH
        generalize code cx st e = cod at *
        go_wp2_with fail
        refine start_ (n := 51) (S := fun w' => w'.cell? ⟨w.heap.size, 0, none⟩ = some (.int .i64 v) ∧ w'.cell? ⟨w.heap.size, 1, none⟩ = some (.int .i64 wd) ∧ w'.cell? ⟨w.heap.size, 2, none⟩ = some (.int .i64 cp) ∧ w'.cell? ⟨w.heap.size, 3, none⟩ = some (.int .i64 pr) ∧ w'.cell? ⟨w.heap.size, 4, none⟩ = some (.int .u64 sa) ∧ w'.cell? ⟨w.heap.size, 5, none⟩ = some (.slice A up.length C) ∧ True) (ds := []) #[false, false, false, false, false, false, false, false, false, false, false, false, false, false, false, false, false, false, false, false, false, false, false, false, false, false, false, false, false, false, false, false, false, false, false, false, false, false, false, false, false, false, false, false, false, false, false, false, false, false, false] (by kernel_rfl) rfl rfl ⟨(blk_cell (blk_drew HA2.out.x) 0).trans rfl, (blk_cell (blk_drew HA2.out.x) 1).trans rfl, (blk_cell (blk_drew HA2.out.x) 2).trans rfl, (blk_cell (blk_drew HA2.out.x) 3).trans rfl, (blk_cell (blk_drew HA2.out.x) 4).trans rfl, (blk_cell (blk_drew HA2.out.x) 5).trans rfl, trivial⟩ (fun hHeld => ?_)
        replace HA2 := Aside.mk (HA2.out.below (below_drew1 (Below.refl _ _)))
        generalize wd2.drew = wx0 at *
        have t1 : decide (st'.taken < st.taken) = false := decide_eq_false (by have := HF.out.t; omega)
        have t2 : decide (st'.pre < st.pre) = false := decide_eq_false (by have := HF.out.p; omega)
        have t4 : decide (least st'.gate cx.ends < least st.gate cx.ends) = false := decide_eq_false (by have := HL0.out; omega)
        have t5 : decide (st'.taken < st'.pre) = false := decide_eq_false (by have := HALL.out.pt; omega)
        have t6 : decide (st'.pre < least st'.gate cx.ends) = false := decide_eq_false (by have := HALL.out.lp; omega)
        have hmb := mulb (c := cp) (p := pr) (by rw [HCX.out.cap]; exact HCX.out.c64) (by have := HCX.out.p4; have := HCX.out.prod; omega)
        have ew1 := w64 (show -4611686018427387904 ≤ 1 + pr ∧ 1 + pr ≤ 4611686018427387904 by have := HCX.out.p4; have := HCX.out.prod; omega)
        have ew2 := w64 (show -4611686018427387904 ≤ cp * (1 + pr) ∧ cp * (1 + pr) ≤ 4611686018427387904 by omega)
        have ew3 := w64 (show -4611686018427387904 ≤ st'.taken - least st'.gate cx.ends ∧ st'.taken - least st'.gate cx.ends ≤ 4611686018427387904 by have := HGD.out.tb; have := HGD.out.wf.t0; have := HLB.out; omega)
        have t7 : decide (cp * (1 + pr) < st'.taken - least st'.gate cx.ends) = false := decide_eq_false (by have := HALL.out.tl; rw [HCX.out.cap, HCX.out.prod]; omega)
        have t8 : decide (cp < space cx st') = false := decide_eq_false (by have := HALL.out.sc; rw [HCX.out.cap]; omega)
        clear hmb
        refine pure_ (i := 0) (N := some 52) (v := ?_) (a' := ?_) #[true, false, false, false, false, false, false, false, false, false, false, false, false, false, false, false, false, false, false, false, false, false, false, false, false, false, false, false, false, false, false, false, false, false, false, false, false, false, false, false, false, false, false, false, false, false, false, false, false, false, false] rfl rfl (by kernel_rfl) (fun _ _ _ h => h) (Or.inl ⟨by rfl, ?_⟩) ?_ ?_
        rotate_left
        · intro w'
          go_simp
          with_reducible rfl
        rotate_left
        · simp only [Act.put, List.setIfInBounds_toArray, List.set_cons_zero, List.set_cons_succ, i64_w, i32_w]
          rfl
        refine pure_ (i := 2) (N := some 54) (v := ?_) (a' := ?_) #[true, false, true, false, false, false, false, false, false, false, false, false, false, false, false, false, false, false, false, false, false, false, false, false, false, false, false, false, false, false, false, false, false, false, false, false, false, false, false, false, false, false, false, false, false, false, false, false, false, false, false] rfl rfl (by kernel_rfl) (fun _ _ _ h => h) (Or.inl ⟨by rfl, ?_⟩) ?_ ?_
        rotate_left
        · intro w'
          go_simp
          with_reducible rfl
        rotate_left
        · simp only [Act.put, List.setIfInBounds_toArray, List.set_cons_zero, List.set_cons_succ, i64_w, i32_w]
          rfl
        refine one_ (i := 1) (N := some 53) #[true, true, true, false, false, false, false, false, false, false, false, false, false, false, false, false, false, false, false, false, false, false, false, false, false, false, false, false, false, false, false, false, false, false, false, false, false, false, false, false, false, false, false, false, false, false, false, false, false, false, false] rfl rfl (by kernel_rfl) (by decide) (fun K hK => ?_)
        refine goes_ Tryd.func26 (by kernel_rfl) rfl #[.pointer (some ⟨B, 0, none⟩)] (by rfl) rfl rfl (by (try simp only [List.map_toArray, List.map_cons, List.map_nil]); first | done | rfl) ?_
        refine (ptaken _ B k' cx st' HA2.out.m.r).mono ?_
        rintro q wx1 ⟨rfl, hb⟩
        refine ⟨_, rfl, ?_⟩
        replace HA2 := Aside.mk (HA2.out.below hb)
        clear hb
        refine hK.out _ _ ⟨(blk_cell HA2.out.x 0).trans rfl, (blk_cell HA2.out.x 1).trans rfl, (blk_cell HA2.out.x 2).trans rfl, (blk_cell HA2.out.x 3).trans rfl, (blk_cell HA2.out.x 4).trans rfl, (blk_cell HA2.out.x 5).trans rfl, trivial⟩ (fun hHeld => ?_)
        clear hK K
        refine norm_ (a' := ?_) ?_ ?_
        rotate_left
        · show Act.put _ (some 53) _ = _
          simp only [Act.put, List.setIfInBounds_toArray, List.set_cons_zero, List.set_cons_succ, i64_w, i32_w]
          rfl
        refine pure_ (i := 3) (N := some 55) (v := ?_) (a' := ?_) #[true, true, true, true, false, false, false, false, false, false, false, false, false, false, false, false, false, false, false, false, false, false, false, false, false, false, false, false, false, false, false, false, false, false, false, false, false, false, false, false, false, false, false, false, false, false, false, false, false, false, false] rfl rfl (by kernel_rfl) (fun _ _ _ h => h) (Or.inl ⟨by rfl, ?_⟩) ?_ ?_
        rotate_left
        · intro w'
          go_simp
          with_reducible rfl
        rotate_left
        · simp only [Act.put, List.setIfInBounds_toArray, List.set_cons_zero, List.set_cons_succ, i64_w, i32_w]
          rfl
        refine pure_ (i := 4) (N := some 56) (v := ?_) (a' := ?_) #[true, true, true, true, true, false, false, false, false, false, false, false, false, false, false, false, false, false, false, false, false, false, false, false, false, false, false, false, false, false, false, false, false, false, false, false, false, false, false, false, false, false, false, false, false, false, false, false, false, false, false] rfl rfl (by kernel_rfl) (fun _ _ _ h => h) (Or.inl ⟨by rfl, ?_⟩) ?_ ?_
        rotate_left
        · intro w'
          go_simp
          with_reducible rfl
        rotate_left
        · simp only [Act.put, List.setIfInBounds_toArray, List.set_cons_zero, List.set_cons_succ, i64_w, i32_w]
          rfl
        refine pure_ (i := 5) (N := some 57) (v := ?_) (a' := ?_) #[true, true, true, true, true, true, false, false, false, false, false, false, false, false, false, false, false, false, false, false, false, false, false, false, false, false, false, false, false, false, false, false, false, false, false, false, false, false, false, false, false, false, false, false, false, false, false, false, false, false, false] rfl rfl (by kernel_rfl) (fun _ _ _ h => h) (Or.inl ⟨by rfl, ?_⟩) ?_ ?_
        rotate_left
        · intro w'
          go_simp
          with_reducible rfl
        rotate_left
        · simp only [Act.put, List.setIfInBounds_toArray, List.set_cons_zero, List.set_cons_succ, i64_w, i32_w]
          rfl
        refine pure_ (i := 7) (N := some 59) (v := ?_) (a' := ?_) #[true, true, true, true, true, true, false, true, false, false, false, false, false, false, false, false, false, false, false, false, false, false, false, false, false, false, false, false, false, false, false, false, false, false, false, false, false, false, false, false, false, false, false, false, false, false, false, false, false, false, false] rfl rfl (by kernel_rfl) (fun _ _ _ h => h) (Or.inl ⟨by rfl, ?_⟩) ?_ ?_
        rotate_left
        · intro w'
          go_simp
          with_reducible rfl
        rotate_left
        · simp only [Act.put, List.setIfInBounds_toArray, List.set_cons_zero, List.set_cons_succ, i64_w, i32_w]
          rfl
        refine one_ (i := 6) (N := some 58) #[true, true, true, true, true, true, true, true, false, false, false, false, false, false, false, false, false, false, false, false, false, false, false, false, false, false, false, false, false, false, false, false, false, false, false, false, false, false, false, false, false, false, false, false, false, false, false, false, false, false, false] rfl rfl (by kernel_rfl) (by decide) (fun K hK => ?_)
        refine goes_ Tryd.func27 (by kernel_rfl) rfl #[.pointer (some ⟨B, 0, none⟩)] (by rfl) rfl rfl (by (try simp only [List.map_toArray, List.map_cons, List.map_nil]); first | done | rfl) ?_
        refine (pprefix _ B k' cx st' HA2.out.m.r).mono ?_
        rintro q wx2 ⟨rfl, hb⟩
        refine ⟨_, rfl, ?_⟩
        replace HA2 := Aside.mk (HA2.out.below hb)
        clear hb
        refine hK.out _ _ ⟨(blk_cell HA2.out.x 0).trans rfl, (blk_cell HA2.out.x 1).trans rfl, (blk_cell HA2.out.x 2).trans rfl, (blk_cell HA2.out.x 3).trans rfl, (blk_cell HA2.out.x 4).trans rfl, (blk_cell HA2.out.x 5).trans rfl, trivial⟩ (fun hHeld => ?_)
        clear hK K
        refine norm_ (a' := ?_) ?_ ?_
        rotate_left
        · show Act.put _ (some 58) _ = _
          simp only [Act.put, List.setIfInBounds_toArray, List.set_cons_zero, List.set_cons_succ, i64_w, i32_w]
          rfl
        refine pure_ (i := 8) (N := some 60) (v := ?_) (a' := ?_) #[true, true, true, true, true, true, true, true, true, false, false, false, false, false, false, false, false, false, false, false, false, false, false, false, false, false, false, false, false, false, false, false, false, false, false, false, false, false, false, false, false, false, false, false, false, false, false, false, false, false, false] rfl rfl (by kernel_rfl) (fun _ _ _ h => h) (Or.inl ⟨by rfl, ?_⟩) ?_ ?_
        rotate_left
        · intro w'
          go_simp
          with_reducible rfl
        rotate_left
        · simp only [Act.put, List.setIfInBounds_toArray, List.set_cons_zero, List.set_cons_succ, i64_w, i32_w]
          rfl
        refine pure_ (i := 9) (N := some 61) (v := ?_) (a' := ?_) #[true, true, true, true, true, true, true, true, true, true, false, false, false, false, false, false, false, false, false, false, false, false, false, false, false, false, false, false, false, false, false, false, false, false, false, false, false, false, false, false, false, false, false, false, false, false, false, false, false, false, false] rfl rfl (by kernel_rfl) (fun _ _ _ h => h) (Or.inl ⟨by rfl, ?_⟩) ?_ ?_
        rotate_left
        · intro w'
          go_simp
          with_reducible rfl
        rotate_left
        · simp only [Act.put, List.setIfInBounds_toArray, List.set_cons_zero, List.set_cons_succ, i64_w, i32_w]
          rfl
        refine pure_ (i := 10) (N := some 62) (v := ?_) (a' := ?_) #[true, true, true, true, true, true, true, true, true, true, true, false, false, false, false, false, false, false, false, false, false, false, false, false, false, false, false, false, false, false, false, false, false, false, false, false, false, false, false, false, false, false, false, false, false, false, false, false, false, false, false] rfl rfl (by kernel_rfl) (fun _ _ _ h => h) (Or.inl ⟨by rfl, ?_⟩) ?_ ?_
        rotate_left
        · intro w'
          go_simp
          with_reducible rfl
        rotate_left
        · simp only [Act.put, List.setIfInBounds_toArray, List.set_cons_zero, List.set_cons_succ, i64_w, i32_w]
          rfl
        refine pure_ (i := 11) (N := some 63) (v := ?_) (a' := ?_) #[true, true, true, true, true, true, true, true, true, true, true, true, false, false, false, false, false, false, false, false, false, false, false, false, false, false, false, false, false, false, false, false, false, false, false, false, false, false, false, false, false, false, false, false, false, false, false, false, false, false, false] rfl rfl (by kernel_rfl) (fun _ _ _ h => h) (Or.inl ⟨by rfl, ?_⟩) ?_ ?_
        rotate_left
        · intro w'
          go_simp
          with_reducible rfl
        rotate_left
        · simp only [Act.put, List.setIfInBounds_toArray, List.set_cons_zero, List.set_cons_succ, i64_w, i32_w]
          rfl
        refine pure_ (i := 13) (N := some 65) (v := ?_) (a' := ?_) #[true, true, true, true, true, true, true, true, true, true, true, true, false, true, false, false, false, false, false, false, false, false, false, false, false, false, false, false, false, false, false, false, false, false, false, false, false, false, false, false, false, false, false, false, false, false, false, false, false, false, false] rfl rfl (by kernel_rfl) (fun _ _ _ h => h) (Or.inl ⟨by rfl, ?_⟩) ?_ ?_
        rotate_left
        · intro w'
          go_simp
          with_reducible rfl
        rotate_left
        · simp only [Act.put, List.setIfInBounds_toArray, List.set_cons_zero, List.set_cons_succ, i64_w, i32_w]
          rfl
        refine one_ (i := 12) (N := some 64) #[true, true, true, true, true, true, true, true, true, true, true, true, true, true, false, false, false, false, false, false, false, false, false, false, false, false, false, false, false, false, false, false, false, false, false, false, false, false, false, false, false, false, false, false, false, false, false, false, false, false, false] rfl rfl (by kernel_rfl) (by decide) (fun K hK => ?_)
        refine goes_ Tryd.func28 (by kernel_rfl) rfl #[.pointer (some ⟨B, 0, none⟩)] (by rfl) rfl rfl (by (try simp only [List.map_toArray, List.map_cons, List.map_nil]); first | done | rfl) ?_
        refine (pleast _ B k' cx st' HA2.out.m.r).mono ?_
        rintro q wx3 ⟨rfl, hb⟩
        refine ⟨_, rfl, ?_⟩
        replace HA2 := Aside.mk (HA2.out.below hb)
        clear hb
        refine hK.out _ _ ⟨(blk_cell HA2.out.x 0).trans rfl, (blk_cell HA2.out.x 1).trans rfl, (blk_cell HA2.out.x 2).trans rfl, (blk_cell HA2.out.x 3).trans rfl, (blk_cell HA2.out.x 4).trans rfl, (blk_cell HA2.out.x 5).trans rfl, trivial⟩ (fun hHeld => ?_)
        clear hK K
        refine norm_ (a' := ?_) ?_ ?_
        rotate_left
        · show Act.put _ (some 64) _ = _
          simp only [Act.put, List.setIfInBounds_toArray, List.set_cons_zero, List.set_cons_succ, i64_w, i32_w]
          rfl
        refine pure_ (i := 14) (N := some 66) (v := ?_) (a' := ?_) #[true, true, true, true, true, true, true, true, true, true, true, true, true, true, true, false, false, false, false, false, false, false, false, false, false, false, false, false, false, false, false, false, false, false, false, false, false, false, false, false, false, false, false, false, false, false, false, false, false, false, false] rfl rfl (by kernel_rfl) (fun _ _ _ h => h) (Or.inl ⟨by rfl, ?_⟩) ?_ ?_
        rotate_left
        · intro w'
          go_simp
          with_reducible rfl
        rotate_left
        · simp only [Act.put, List.setIfInBounds_toArray, List.set_cons_zero, List.set_cons_succ, i64_w, i32_w]
          rfl
        refine pure_ (i := 15) (N := some 67) (v := ?_) (a' := ?_) #[true, true, true, true, true, true, true, true, true, true, true, true, true, true, true, true, false, false, false, false, false, false, false, false, false, false, false, false, false, false, false, false, false, false, false, false, false, false, false, false, false, false, false, false, false, false, false, false, false, false, false] rfl rfl (by kernel_rfl) (fun _ _ _ h => h) (Or.inl ⟨by rfl, ?_⟩) ?_ ?_
        rotate_left
        · intro w'
          go_simp
          with_reducible rfl
        rotate_left
        · simp only [Act.put, List.setIfInBounds_toArray, List.set_cons_zero, List.set_cons_succ, i64_w, i32_w]
          rfl
        refine pure_ (i := 16) (N := some 68) (v := ?_) (a' := ?_) #[true, true, true, true, true, true, true, true, true, true, true, true, true, true, true, true, true, false, false, false, false, false, false, false, false, false, false, false, false, false, false, false, false, false, false, false, false, false, false, false, false, false, false, false, false, false, false, false, false, false, false] rfl rfl (by kernel_rfl) (fun _ _ _ h => h) (Or.inl ⟨by rfl, ?_⟩) ?_ ?_
        rotate_left
        · intro w'
          go_simp
          with_reducible rfl
        rotate_left
        · simp only [Act.put, List.setIfInBounds_toArray, List.set_cons_zero, List.set_cons_succ, i64_w, i32_w]
          rfl
        refine pure_ (i := 17) (N := some 69) (v := ?_) (a' := ?_) #[true, true, true, true, true, true, true, true, true, true, true, true, true, true, true, true, true, true, false, false, false, false, false, false, false, false, false, false, false, false, false, false, false, false, false, false, false, false, false, false, false, false, false, false, false, false, false, false, false, false, false] rfl rfl (by kernel_rfl) (fun _ _ _ h => h) (Or.inl ⟨by rfl, ?_⟩) ?_ ?_
        rotate_left
        · intro w'
          go_simp
          with_reducible rfl
        rotate_left
        · simp only [Act.put, List.setIfInBounds_toArray, List.set_cons_zero, List.set_cons_succ, i64_w, i32_w]
          rfl
        refine pure_ (i := 19) (N := some 71) (v := ?_) (a' := ?_) #[true, true, true, true, true, true, true, true, true, true, true, true, true, true, true, true, true, true, false, true, false, false, false, false, false, false, false, false, false, false, false, false, false, false, false, false, false, false, false, false, false, false, false, false, false, false, false, false, false, false, false] rfl rfl (by kernel_rfl) (fun _ _ _ h => h) (Or.inl ⟨by rfl, ?_⟩) ?_ ?_
        rotate_left
        · intro w'
          go_simp
          with_reducible rfl
        rotate_left
        · simp only [Act.put, List.setIfInBounds_toArray, List.set_cons_zero, List.set_cons_succ, i64_w, i32_w]
          rfl
        refine one_ (i := 18) (N := some 70) #[true, true, true, true, true, true, true, true, true, true, true, true, true, true, true, true, true, true, true, true, false, false, false, false, false, false, false, false, false, false, false, false, false, false, false, false, false, false, false, false, false, false, false, false, false, false, false, false, false, false, false] rfl rfl (by kernel_rfl) (by decide) (fun K hK => ?_)
        refine goes_ Tryd.func27 (by kernel_rfl) rfl #[.pointer (some ⟨B, 0, none⟩)] (by rfl) rfl rfl (by (try simp only [List.map_toArray, List.map_cons, List.map_nil]); first | done | rfl) ?_
        refine (pprefix _ B k' cx st' HA2.out.m.r).mono ?_
        rintro q wx4 ⟨rfl, hb⟩
        refine ⟨_, rfl, ?_⟩
        replace HA2 := Aside.mk (HA2.out.below hb)
        clear hb
        refine hK.out _ _ ⟨(blk_cell HA2.out.x 0).trans rfl, (blk_cell HA2.out.x 1).trans rfl, (blk_cell HA2.out.x 2).trans rfl, (blk_cell HA2.out.x 3).trans rfl, (blk_cell HA2.out.x 4).trans rfl, (blk_cell HA2.out.x 5).trans rfl, trivial⟩ (fun hHeld => ?_)
        clear hK K
        refine norm_ (a' := ?_) ?_ ?_
        rotate_left
        · show Act.put _ (some 70) _ = _
          simp only [Act.put, List.setIfInBounds_toArray, List.set_cons_zero, List.set_cons_succ, i64_w, i32_w]
          rfl
        refine one_ (i := 20) (N := some 72) #[true, true, true, true, true, true, true, true, true, true, true, true, true, true, true, true, true, true, true, true, true, false, false, false, false, false, false, false, false, false, false, false, false, false, false, false, false, false, false, false, false, false, false, false, false, false, false, false, false, false, false] rfl rfl (by kernel_rfl) (by decide) (fun K hK => ?_)
        refine goes_ Tryd.func26 (by kernel_rfl) rfl #[.pointer (some ⟨B, 0, none⟩)] (by rfl) rfl rfl (by (try simp only [List.map_toArray, List.map_cons, List.map_nil]); first | done | rfl) ?_
        refine (ptaken _ B k' cx st' HA2.out.m.r).mono ?_
        rintro q wx5 ⟨rfl, hb⟩
        refine ⟨_, rfl, ?_⟩
        replace HA2 := Aside.mk (HA2.out.below hb)
        clear hb
        refine hK.out _ _ ⟨(blk_cell HA2.out.x 0).trans rfl, (blk_cell HA2.out.x 1).trans rfl, (blk_cell HA2.out.x 2).trans rfl, (blk_cell HA2.out.x 3).trans rfl, (blk_cell HA2.out.x 4).trans rfl, (blk_cell HA2.out.x 5).trans rfl, trivial⟩ (fun hHeld => ?_)
        clear hK K
        refine norm_ (a' := ?_) ?_ ?_
        rotate_left
        · show Act.put _ (some 72) _ = _
          simp only [Act.put, List.setIfInBounds_toArray, List.set_cons_zero, List.set_cons_succ, i64_w, i32_w]
          rfl
        refine pure_ (i := 21) (N := some 73) (v := ?_) (a' := ?_) #[true, true, true, true, true, true, true, true, true, true, true, true, true, true, true, true, true, true, true, true, true, true, false, false, false, false, false, false, false, false, false, false, false, false, false, false, false, false, false, false, false, false, false, false, false, false, false, false, false, false, false] rfl rfl (by kernel_rfl) (fun _ _ _ h => h) (Or.inl ⟨by rfl, ?_⟩) ?_ ?_
        rotate_left
        · intro w'
          go_simp
          with_reducible rfl
        rotate_left
        · simp only [Act.put, List.setIfInBounds_toArray, List.set_cons_zero, List.set_cons_succ, i64_w, i32_w]
          rfl
        refine pure_ (i := 22) (N := some 74) (v := ?_) (a' := ?_) #[true, true, true, true, true, true, true, true, true, true, true, true, true, true, true, true, true, true, true, true, true, true, true, false, false, false, false, false, false, false, false, false, false, false, false, false, false, false, false, false, false, false, false, false, false, false, false, false, false, false, false] rfl rfl (by kernel_rfl) (fun _ _ _ h => h) (Or.inl ⟨by rfl, ?_⟩) ?_ ?_
        rotate_left
        · intro w'
          go_simp
          with_reducible rfl
        rotate_left
        · simp only [Act.put, List.setIfInBounds_toArray, List.set_cons_zero, List.set_cons_succ, i64_w, i32_w]
          rfl
        refine pure_ (i := 23) (N := some 75) (v := ?_) (a' := ?_) #[true, true, true, true, true, true, true, true, true, true, true, true, true, true, true, true, true, true, true, true, true, true, true, true, false, false, false, false, false, false, false, false, false, false, false, false, false, false, false, false, false, false, false, false, false, false, false, false, false, false, false] rfl rfl (by kernel_rfl) (fun _ _ _ h => h) (Or.inl ⟨by rfl, ?_⟩) ?_ ?_
        rotate_left
        · intro w'
          go_simp
          with_reducible rfl
        rotate_left
        · simp only [Act.put, List.setIfInBounds_toArray, List.set_cons_zero, List.set_cons_succ, i64_w, i32_w]
          rfl
        refine pure_ (i := 24) (N := some 76) (v := ?_) (a' := ?_) #[true, true, true, true, true, true, true, true, true, true, true, true, true, true, true, true, true, true, true, true, true, true, true, true, true, false, false, false, false, false, false, false, false, false, false, false, false, false, false, false, false, false, false, false, false, false, false, false, false, false, false] rfl rfl (by kernel_rfl) (fun _ _ _ h => h) (Or.inl ⟨by rfl, ?_⟩) ?_ ?_
        rotate_left
        · intro w'
          go_simp
          with_reducible rfl
        rotate_left
        · simp only [Act.put, List.setIfInBounds_toArray, List.set_cons_zero, List.set_cons_succ, i64_w, i32_w]
          rfl
        refine pure_ (i := 26) (N := some 78) (v := ?_) (a' := ?_) #[true, true, true, true, true, true, true, true, true, true, true, true, true, true, true, true, true, true, true, true, true, true, true, true, true, false, true, false, false, false, false, false, false, false, false, false, false, false, false, false, false, false, false, false, false, false, false, false, false, false, false] rfl rfl (by kernel_rfl) (fun _ _ _ h => h) (Or.inl ⟨by rfl, ?_⟩) ?_ ?_
        rotate_left
        · intro w'
          go_simp
          with_reducible rfl
        rotate_left
        · simp only [Act.put, List.setIfInBounds_toArray, List.set_cons_zero, List.set_cons_succ, i64_w, i32_w]
          rfl
        refine one_ (i := 25) (N := some 77) #[true, true, true, true, true, true, true, true, true, true, true, true, true, true, true, true, true, true, true, true, true, true, true, true, true, true, true, false, false, false, false, false, false, false, false, false, false, false, false, false, false, false, false, false, false, false, false, false, false, false, false] rfl rfl (by kernel_rfl) (by decide) (fun K hK => ?_)
        refine goes_ Tryd.func28 (by kernel_rfl) rfl #[.pointer (some ⟨B, 0, none⟩)] (by rfl) rfl rfl (by (try simp only [List.map_toArray, List.map_cons, List.map_nil]); first | done | rfl) ?_
        refine (pleast _ B k' cx st' HA2.out.m.r).mono ?_
        rintro q wx6 ⟨rfl, hb⟩
        refine ⟨_, rfl, ?_⟩
        replace HA2 := Aside.mk (HA2.out.below hb)
        clear hb
        refine hK.out _ _ ⟨(blk_cell HA2.out.x 0).trans rfl, (blk_cell HA2.out.x 1).trans rfl, (blk_cell HA2.out.x 2).trans rfl, (blk_cell HA2.out.x 3).trans rfl, (blk_cell HA2.out.x 4).trans rfl, (blk_cell HA2.out.x 5).trans rfl, trivial⟩ (fun hHeld => ?_)
        clear hK K
        refine norm_ (a' := ?_) ?_ ?_
        rotate_left
        · show Act.put _ (some 77) _ = _
          simp only [Act.put, List.setIfInBounds_toArray, List.set_cons_zero, List.set_cons_succ, i64_w, i32_w]
          rfl
        refine one_ (i := 27) (N := some 79) #[true, true, true, true, true, true, true, true, true, true, true, true, true, true, true, true, true, true, true, true, true, true, true, true, true, true, true, true, false, false, false, false, false, false, false, false, false, false, false, false, false, false, false, false, false, false, false, false, false, false, false] rfl rfl (by kernel_rfl) (by decide) (fun K hK => ?_)
        refine goes_ Tryd.func27 (by kernel_rfl) rfl #[.pointer (some ⟨B, 0, none⟩)] (by rfl) rfl rfl (by (try simp only [List.map_toArray, List.map_cons, List.map_nil]); first | done | rfl) ?_
        refine (pprefix _ B k' cx st' HA2.out.m.r).mono ?_
        rintro q wx7 ⟨rfl, hb⟩
        refine ⟨_, rfl, ?_⟩
        replace HA2 := Aside.mk (HA2.out.below hb)
        clear hb
        refine hK.out _ _ ⟨(blk_cell HA2.out.x 0).trans rfl, (blk_cell HA2.out.x 1).trans rfl, (blk_cell HA2.out.x 2).trans rfl, (blk_cell HA2.out.x 3).trans rfl, (blk_cell HA2.out.x 4).trans rfl, (blk_cell HA2.out.x 5).trans rfl, trivial⟩ (fun hHeld => ?_)
        clear hK K
        refine norm_ (a' := ?_) ?_ ?_
        rotate_left
        · show Act.put _ (some 79) _ = _
          simp only [Act.put, List.setIfInBounds_toArray, List.set_cons_zero, List.set_cons_succ, i64_w, i32_w]
          rfl
        refine pure_ (i := 28) (N := some 80) (v := ?_) (a' := ?_) #[true, true, true, true, true, true, true, true, true, true, true, true, true, true, true, true, true, true, true, true, true, true, true, true, true, true, true, true, true, false, false, false, false, false, false, false, false, false, false, false, false, false, false, false, false, false, false, false, false, false, false] rfl rfl (by kernel_rfl) (fun _ _ _ h => h) (Or.inl ⟨by rfl, ?_⟩) ?_ ?_
        rotate_left
        · intro w'
          go_simp
          with_reducible rfl
        rotate_left
        · simp only [Act.put, List.setIfInBounds_toArray, List.set_cons_zero, List.set_cons_succ, i64_w, i32_w]
          rfl
        refine pure_ (i := 29) (N := some 81) (v := ?_) (a' := ?_) #[true, true, true, true, true, true, true, true, true, true, true, true, true, true, true, true, true, true, true, true, true, true, true, true, true, true, true, true, true, true, false, false, false, false, false, false, false, false, false, false, false, false, false, false, false, false, false, false, false, false, false] rfl rfl (by kernel_rfl) (fun _ _ _ h => h) (Or.inl ⟨by rfl, ?_⟩) ?_ ?_
        rotate_left
        · intro w'
          go_simp
          with_reducible rfl
        rotate_left
        · simp only [Act.put, List.setIfInBounds_toArray, List.set_cons_zero, List.set_cons_succ, i64_w, i32_w]
          rfl
        refine pure_ (i := 30) (N := some 82) (v := ?_) (a' := ?_) #[true, true, true, true, true, true, true, true, true, true, true, true, true, true, true, true, true, true, true, true, true, true, true, true, true, true, true, true, true, true, true, false, false, false, false, false, false, false, false, false, false, false, false, false, false, false, false, false, false, false, false] rfl rfl (by kernel_rfl) (fun _ _ _ h => h) (Or.inl ⟨by rfl, ?_⟩) ?_ ?_
        rotate_left
        · intro w'
          go_simp
          with_reducible rfl
        rotate_left
        · simp only [Act.put, List.setIfInBounds_toArray, List.set_cons_zero, List.set_cons_succ, i64_w, i32_w]
          rfl
        refine pure_ (i := 31) (N := some 83) (v := ?_) (a' := ?_) #[true, true, true, true, true, true, true, true, true, true, true, true, true, true, true, true, true, true, true, true, true, true, true, true, true, true, true, true, true, true, true, true, false, false, false, false, false, false, false, false, false, false, false, false, false, false, false, false, false, false, false] rfl rfl (by kernel_rfl) (fun _ _ _ h => h) (Or.inl ⟨by rfl, ?_⟩) ?_ ?_
        rotate_left
        · intro w'
          go_simp
          with_reducible rfl
        rotate_left
        · simp only [Act.put, List.setIfInBounds_toArray, List.set_cons_zero, List.set_cons_succ, i64_w, i32_w]
          rfl
        refine pure_ (i := 33) (N := some 85) (v := ?_) (a' := ?_) #[true, true, true, true, true, true, true, true, true, true, true, true, true, true, true, true, true, true, true, true, true, true, true, true, true, true, true, true, true, true, true, true, false, true, false, false, false, false, false, false, false, false, false, false, false, false, false, false, false, false, false] rfl rfl (by kernel_rfl) (fun _ _ _ h => h) (Or.inl ⟨by rfl, ?_⟩) ?_ ?_
        rotate_left
        · intro w'
          go_simp
          with_reducible rfl
        rotate_left
        · simp only [Act.put, List.setIfInBounds_toArray, List.set_cons_zero, List.set_cons_succ, i64_w, i32_w]
          rfl
        refine pure_ (i := 36) (N := some 88) (v := ?_) (a' := ?_) #[true, true, true, true, true, true, true, true, true, true, true, true, true, true, true, true, true, true, true, true, true, true, true, true, true, true, true, true, true, true, true, true, false, true, false, false, true, false, false, false, false, false, false, false, false, false, false, false, false, false, false] rfl rfl (by kernel_rfl) (fun _ _ _ h => h) (Or.inl ⟨by rfl, ?_⟩) ?_ ?_
        rotate_left
        · intro w'
          go_simp
          with_reducible rfl
        rotate_left
        · simp only [Act.put, List.setIfInBounds_toArray, List.set_cons_zero, List.set_cons_succ, i64_w, i32_w]
          rfl
        refine take_ (i := 37) (N := some 89) (v := ?_) (a' := ?_) #[true, true, true, true, true, true, true, true, true, true, true, true, true, true, true, true, true, true, true, true, true, true, true, true, true, true, true, true, true, true, true, true, false, true, false, false, true, true, false, false, false, false, false, false, false, false, false, false, false, false, false] rfl rfl (by kernel_rfl) (fun _ _ _ h => h) (Or.inl ⟨by rfl, ?_⟩) hHeld ?_ ?_
        rotate_left
        · rintro w' ⟨s0, s1, s2, s3, s4, s5, s6⟩
          go_simp
          with_reducible rfl
        rotate_left
        · simp only [Act.put, List.setIfInBounds_toArray, List.set_cons_zero, List.set_cons_succ, i64_w, i32_w]
          rfl
        refine pure_ (i := 38) (N := some 90) (v := ?_) (a' := ?_) #[true, true, true, true, true, true, true, true, true, true, true, true, true, true, true, true, true, true, true, true, true, true, true, true, true, true, true, true, true, true, true, true, false, true, false, false, true, true, true, false, false, false, false, false, false, false, false, false, false, false, false] rfl rfl (by kernel_rfl) (fun _ _ _ h => h) (Or.inl ⟨by rfl, ?_⟩) ?_ ?_
        rotate_left
        · intro w'
          go_simp
          with_reducible rfl
        rotate_left
        · simp only [Act.put, List.setIfInBounds_toArray, List.set_cons_zero, List.set_cons_succ, i64_w, i32_w]
          rfl
        refine take_ (i := 39) (N := some 91) (v := ?_) (a' := ?_) #[true, true, true, true, true, true, true, true, true, true, true, true, true, true, true, true, true, true, true, true, true, true, true, true, true, true, true, true, true, true, true, true, false, true, false, false, true, true, true, true, false, false, false, false, false, false, false, false, false, false, false] rfl rfl (by kernel_rfl) (fun _ _ _ h => h) (Or.inl ⟨by rfl, ?_⟩) hHeld ?_ ?_
        rotate_left
        · rintro w' ⟨s0, s1, s2, s3, s4, s5, s6⟩
          go_simp
          with_reducible rfl
        rotate_left
        · simp only [Act.put, List.setIfInBounds_toArray, List.set_cons_zero, List.set_cons_succ, i64_w, i32_w]
          rfl
        refine pure_ (i := 40) (N := some 92) (v := ?_) (a' := ?_) #[true, true, true, true, true, true, true, true, true, true, true, true, true, true, true, true, true, true, true, true, true, true, true, true, true, true, true, true, true, true, true, true, false, true, false, false, true, true, true, true, true, false, false, false, false, false, false, false, false, false, false] rfl rfl (by kernel_rfl) (fun _ _ _ h => h) (Or.inl ⟨by rfl, ?_⟩) ?_ ?_
        rotate_left
        · intro w'
          go_simp
          with_reducible rfl
        rotate_left
        · simp only [Act.put, List.setIfInBounds_toArray, List.set_cons_zero, List.set_cons_succ, i64_w, i32_w]
          rfl
        refine pure_ (i := 41) (N := some 93) (v := ?_) (a' := ?_) #[true, true, true, true, true, true, true, true, true, true, true, true, true, true, true, true, true, true, true, true, true, true, true, true, true, true, true, true, true, true, true, true, false, true, false, false, true, true, true, true, true, true, false, false, false, false, false, false, false, false, false] rfl rfl (by kernel_rfl) (fun _ _ _ h => h) (Or.inl ⟨by rfl, ?_⟩) ?_ ?_
        rotate_left
        · intro w'
          go_simp
          with_reducible rfl
        rotate_left
        · simp only [Act.put, List.setIfInBounds_toArray, List.set_cons_zero, List.set_cons_succ, i64_w, i32_w]
          rfl
        refine one_ (i := 32) (N := some 84) #[true, true, true, true, true, true, true, true, true, true, true, true, true, true, true, true, true, true, true, true, true, true, true, true, true, true, true, true, true, true, true, true, true, true, false, false, true, true, true, true, true, true, false, false, false, false, false, false, false, false, false] rfl rfl (by kernel_rfl) (by decide) (fun K hK => ?_)
        refine goes_ Tryd.func26 (by kernel_rfl) rfl #[.pointer (some ⟨B, 0, none⟩)] (by rfl) rfl rfl (by (try simp only [List.map_toArray, List.map_cons, List.map_nil]); first | done | rfl) ?_
        refine (ptaken _ B k' cx st' HA2.out.m.r).mono ?_
        rintro q wx8 ⟨rfl, hb⟩
        refine ⟨_, rfl, ?_⟩
        replace HA2 := Aside.mk (HA2.out.below hb)
        clear hb
        refine hK.out _ _ ⟨(blk_cell HA2.out.x 0).trans rfl, (blk_cell HA2.out.x 1).trans rfl, (blk_cell HA2.out.x 2).trans rfl, (blk_cell HA2.out.x 3).trans rfl, (blk_cell HA2.out.x 4).trans rfl, (blk_cell HA2.out.x 5).trans rfl, trivial⟩ (fun hHeld => ?_)
        clear hK K
        refine norm_ (a' := ?_) ?_ ?_
        rotate_left
        · show Act.put _ (some 84) _ = _
          simp only [Act.put, List.setIfInBounds_toArray, List.set_cons_zero, List.set_cons_succ, i64_w, i32_w]
          rfl
        refine one_ (i := 34) (N := some 86) #[true, true, true, true, true, true, true, true, true, true, true, true, true, true, true, true, true, true, true, true, true, true, true, true, true, true, true, true, true, true, true, true, true, true, true, false, true, true, true, true, true, true, false, false, false, false, false, false, false, false, false] rfl rfl (by kernel_rfl) (by decide) (fun K hK => ?_)
        refine goes_ Tryd.func28 (by kernel_rfl) rfl #[.pointer (some ⟨B, 0, none⟩)] (by rfl) rfl rfl (by (try simp only [List.map_toArray, List.map_cons, List.map_nil]); first | done | rfl) ?_
        refine (pleast _ B k' cx st' HA2.out.m.r).mono ?_
        rintro q wx9 ⟨rfl, hb⟩
        refine ⟨_, rfl, ?_⟩
        replace HA2 := Aside.mk (HA2.out.below hb)
        clear hb
        refine hK.out _ _ ⟨(blk_cell HA2.out.x 0).trans rfl, (blk_cell HA2.out.x 1).trans rfl, (blk_cell HA2.out.x 2).trans rfl, (blk_cell HA2.out.x 3).trans rfl, (blk_cell HA2.out.x 4).trans rfl, (blk_cell HA2.out.x 5).trans rfl, trivial⟩ (fun hHeld => ?_)
        clear hK K
        refine norm_ (a' := ?_) ?_ ?_
        rotate_left
        · show Act.put _ (some 86) _ = _
          simp only [Act.put, List.setIfInBounds_toArray, List.set_cons_zero, List.set_cons_succ, i64_w, i32_w]
          rfl
        refine pure_ (i := 35) (N := some 87) (v := ?_) (a' := ?_) #[true, true, true, true, true, true, true, true, true, true, true, true, true, true, true, true, true, true, true, true, true, true, true, true, true, true, true, true, true, true, true, true, true, true, true, true, true, true, true, true, true, true, false, false, false, false, false, false, false, false, false] rfl rfl (by kernel_rfl) (fun _ _ _ h => h) (Or.inl ⟨by rfl, ?_⟩) ?_ ?_
        rotate_left
        · intro w'
          go_simp
          with_reducible rfl
        rotate_left
        · simp only [Act.put, List.setIfInBounds_toArray, List.set_cons_zero, List.set_cons_succ, i64_w, i32_w]
          rfl
        refine pure_ (i := 42) (N := some 94) (v := ?_) (a' := ?_) #[true, true, true, true, true, true, true, true, true, true, true, true, true, true, true, true, true, true, true, true, true, true, true, true, true, true, true, true, true, true, true, true, true, true, true, true, true, true, true, true, true, true, true, false, false, false, false, false, false, false, false] rfl rfl (by kernel_rfl) (fun _ _ _ h => h) (Or.inl ⟨by rfl, ?_⟩) ?_ ?_
        rotate_left
        · intro w'
          go_simp
          with_reducible rfl
        rotate_left
        · simp only [Act.put, List.setIfInBounds_toArray, List.set_cons_zero, List.set_cons_succ, i64_w, i32_w]
          rfl
        refine pure_ (i := 43) (N := some 95) (v := ?_) (a' := ?_) #[true, true, true, true, true, true, true, true, true, true, true, true, true, true, true, true, true, true, true, true, true, true, true, true, true, true, true, true, true, true, true, true, true, true, true, true, true, true, true, true, true, true, true, true, false, false, false, false, false, false, false] rfl rfl (by kernel_rfl) (fun _ _ _ h => h) (Or.inl ⟨by rfl, ?_⟩) ?_ ?_
        rotate_left
        · intro w'
          go_simp
          with_reducible rfl
        rotate_left
        · simp only [Act.put, List.setIfInBounds_toArray, List.set_cons_zero, List.set_cons_succ, i64_w, i32_w]
          rfl
        refine pure_ (i := 44) (N := some 96) (v := ?_) (a' := ?_) #[true, true, true, true, true, true, true, true, true, true, true, true, true, true, true, true, true, true, true, true, true, true, true, true, true, true, true, true, true, true, true, true, true, true, true, true, true, true, true, true, true, true, true, true, true, false, false, false, false, false, false] rfl rfl (by kernel_rfl) (fun _ _ _ h => h) (Or.inl ⟨by rfl, ?_⟩) ?_ ?_
        rotate_left
        · intro w'
          go_simp
          with_reducible rfl
        rotate_left
        · simp only [Act.put, List.setIfInBounds_toArray, List.set_cons_zero, List.set_cons_succ, i64_w, i32_w]
          rfl
        refine pure_ (i := 45) (N := some 97) (v := ?_) (a' := ?_) #[true, true, true, true, true, true, true, true, true, true, true, true, true, true, true, true, true, true, true, true, true, true, true, true, true, true, true, true, true, true, true, true, true, true, true, true, true, true, true, true, true, true, true, true, true, true, false, false, false, false, false] rfl rfl (by kernel_rfl) (fun _ _ _ h => h) (Or.inl ⟨by rfl, ?_⟩) ?_ ?_
        rotate_left
        · intro w'
          go_simp
          with_reducible rfl
        rotate_left
        · simp only [Act.put, List.setIfInBounds_toArray, List.set_cons_zero, List.set_cons_succ, i64_w, i32_w]
          rfl
        refine pure_ (i := 47) (N := some 99) (v := ?_) (a' := ?_) #[true, true, true, true, true, true, true, true, true, true, true, true, true, true, true, true, true, true, true, true, true, true, true, true, true, true, true, true, true, true, true, true, true, true, true, true, true, true, true, true, true, true, true, true, true, true, false, true, false, false, false] rfl rfl (by kernel_rfl) (fun _ _ _ h => h) (Or.inl ⟨by rfl, ?_⟩) ?_ ?_
        rotate_left
        · intro w'
          go_simp
          with_reducible rfl
        rotate_left
        · simp only [Act.put, List.setIfInBounds_toArray, List.set_cons_zero, List.set_cons_succ, i64_w, i32_w]
          rfl
        refine take_ (i := 48) (N := some 100) (v := ?_) (a' := ?_) #[true, true, true, true, true, true, true, true, true, true, true, true, true, true, true, true, true, true, true, true, true, true, true, true, true, true, true, true, true, true, true, true, true, true, true, true, true, true, true, true, true, true, true, true, true, true, false, true, true, false, false] rfl rfl (by kernel_rfl) (fun _ _ _ h => h) (Or.inl ⟨by rfl, ?_⟩) hHeld ?_ ?_
        rotate_left
        · rintro w' ⟨s0, s1, s2, s3, s4, s5, s6⟩
          go_simp
          with_reducible rfl
        rotate_left
        · simp only [Act.put, List.setIfInBounds_toArray, List.set_cons_zero, List.set_cons_succ, i64_w, i32_w]
          rfl
        refine one_ (i := 46) (N := some 98) #[true, true, true, true, true, true, true, true, true, true, true, true, true, true, true, true, true, true, true, true, true, true, true, true, true, true, true, true, true, true, true, true, true, true, true, true, true, true, true, true, true, true, true, true, true, true, true, true, true, false, false] rfl rfl (by kernel_rfl) (by decide) (fun K hK => ?_)
        refine goes_ Tryd.func30 (by kernel_rfl) rfl #[.pointer (some ⟨B, 0, none⟩)] (by rfl) rfl rfl (by (try simp only [List.map_toArray, List.map_cons, List.map_nil]); first | done | rfl) ?_
        refine (pspace _ B k' cx st' HA2.out.m.r).mono ?_
        rintro q wx10 ⟨rfl, hb⟩
        refine ⟨_, rfl, ?_⟩
        replace HA2 := Aside.mk (HA2.out.below hb)
        clear hb
        refine hK.out _ _ ⟨(blk_cell HA2.out.x 0).trans rfl, (blk_cell HA2.out.x 1).trans rfl, (blk_cell HA2.out.x 2).trans rfl, (blk_cell HA2.out.x 3).trans rfl, (blk_cell HA2.out.x 4).trans rfl, (blk_cell HA2.out.x 5).trans rfl, trivial⟩ (fun hHeld => ?_)
        clear hK K
        refine norm_ (a' := ?_) ?_ ?_
        rotate_left
        · show Act.put _ (some 98) _ = _
          simp only [Act.put, List.setIfInBounds_toArray, List.set_cons_zero, List.set_cons_succ, i64_w, i32_w]
          rfl
        refine pure_ (i := 49) (N := some 101) (v := ?_) (a' := ?_) #[true, true, true, true, true, true, true, true, true, true, true, true, true, true, true, true, true, true, true, true, true, true, true, true, true, true, true, true, true, true, true, true, true, true, true, true, true, true, true, true, true, true, true, true, true, true, true, true, true, true, false] rfl rfl (by kernel_rfl) (fun _ _ _ h => h) (Or.inl ⟨by rfl, ?_⟩) ?_ ?_
        rotate_left
        · intro w'
          go_simp
          with_reducible rfl
        rotate_left
        · simp only [Act.put, List.setIfInBounds_toArray, List.set_cons_zero, List.set_cons_succ, i64_w, i32_w]
          rfl
        refine pure_ (i := 50) (N := some 102) (v := ?_) (a' := ?_) #[true, true, true, true, true, true, true, true, true, true, true, true, true, true, true, true, true, true, true, true, true, true, true, true, true, true, true, true, true, true, true, true, true, true, true, true, true, true, true, true, true, true, true, true, true, true, true, true, true, true, true] rfl rfl (by kernel_rfl) (fun _ _ _ h => h) (Or.inl ⟨by rfl, ?_⟩) ?_ ?_
        rotate_left
        · intro w'
          go_simp
          with_reducible rfl
        rotate_left
        · simp only [Act.put, List.setIfInBounds_toArray, List.set_cons_zero, List.set_cons_succ, i64_w, i32_w]
          rfl
        refine done_ (by kernel_rfl) ?_
        clear hHeld t1 t2 t4 t5 t6 t7 t8 ew1 ew2 ew3
        clear t3
        go_wp2_with fail
        go_loopw [11] (fun x wr => ∃ j : Nat, x = .int .i64 (j : Int) ∧ j ≤ up.length ∧ Aside (HW w wr v wd cp pr sa A C up B k' cx st')) (fun x _ => up.length - (intOf x).toNat)
        case atStart => exact ⟨0, rfl, Nat.zero_le _, HA2⟩
        case round =>
          clear HA2
          obtain ⟨j, rfl, hj, HA2⟩ := hrel
          obtain ⟨x0, x1, x2, x3, x4, x5⟩ := cell6 HA2.out.x
          by_cases hlt : j < up.length
          rotate_left
          · have t1 : decide ((j : Int) < (up.length : Int)) = false := decide_eq_false (by omega)
            have t2 : decide (j < up.length) = false := decide_eq_false hlt
            clear hj hlt
            go_wp2_with fail
            clear t1 t2 x0 x1 x2 x3 x4 x5
            go_loopw [13] (fun x wr => ∃ t : Nat, x = .int .i64 (t : Int) ∧ t ≤ cx.prod ∧ Aside (HW w wr v wd cp pr sa A C up B k' cx st')) (fun x _ => cx.prod - (intOf x).toNat)
            case atStart => exact ⟨0, rfl, Nat.zero_le _, HA2⟩
            case round =>
              clear HA2
              obtain ⟨t, rfl, ht, HA2⟩ := hrel
              obtain ⟨x0, x1, x2, x3, x4, x5⟩ := cell6 HA2.out.x
              by_cases hlt : t < cx.prod
              rotate_left
              · have t1 : decide ((t : Int) < pr) = false := decide_eq_false (by have := HCX.out.prod; omega)
                clear ht hlt
                go_wp2_with fail
                clear t1 x0 x1 x2 x3 x4 x5
                go_roundw
                case rel => exact ⟨i + 1, k', st', L', by first | rfl | simp, HLT.out, HA2, HI2, HH2⟩
                case measure =>
                  simp only [intOf, tn1, Int.toNat_natCast]
                  exact meas1 HLT.out
              have t1 : decide ((t : Int) < pr) = true := decide_eq_true (by have := HCX.out.prod; omega)
              have HTL := Aside.mk hlt
              have et := Mo.i1 (show t < 4611686018427387904 by have := HCX.out.p4; omega)
              clear ht hlt
              go_wp2_with fail
              clear t1 x0 x1 x2 x3 x4 x5
              refine (pholds _ B k' cx st' HA2.out.m.r t HTL.out).mono ?_
              rintro r wy1 ⟨rfl, hb⟩
              replace HA2 := Aside.mk (HA2.out.below hb)
              clear hb
              have HGR := Aside.mk (HALL.out.hg t HTL.out)
              have HZB := Aside.mk (show held st' t = hz ∨ (0 ≤ (held st' t).f ∧ 1 ≤ (held st' t).n ∧ (held st' t).f + (held st' t).n ≤ 100000) from by
                rcases HGD.out.wf.hw t HTL.out with h3 | ⟨h3, _, h4, h5, _⟩
                · exact .inl h3
                · exact .inr ⟨h4, h3, by have := HGD.out.tb; omega⟩)
              generalize held st' t = h at *
              obtain ⟨hf, hn, hp, hg⟩ := h
              have hb6 := below_alloc (Below.refl wy1.heap.size wy1) (.cells #[.int .i64 hf, .int .i64 hn, .int .i64 hp, .bool hg] 62)
              have h6 := heap_alloc_new wy1 (.cells #[.int .i64 hf, .int .i64 hn, .int .i64 hp, .bool hg] 62)
              go_upto_region 25 with (fail)
              replace HA2 := Aside.mk (HA2.out.below hb6)
              obtain ⟨Q, hQ⟩ : ∃ Q, Q = wy1.heap.size := ⟨_, rfl⟩
              rw [← hQ] at h6 ⊢
              have H6 := Aside.mk h6
              clear hb6 h6 hQ
              generalize wy1.alloc (.cells #[.int .i64 hf, .int .i64 hn, .int .i64 hp, .bool hg] 62) = wy2 at *
              obtain ⟨q0, q1, q2, q3⟩ := cell4 H6.out
              obtain ⟨x0, x1, x2, x3, x4, x5⟩ := cell6 HA2.out.x
              cases hg with
              | false =>
                generalize isZ ⟨hf, hn, hp, false⟩ = z at *
                cases z with
                | true =>
                  go_wp2_with fail
                  refine start_ (n := 18) (S := fun w' => True) (ds := []) #[false, false, false, false, false, false, false, false, false, false, false, false, false, false, false, false, false, false] (by kernel_rfl) rfl rfl trivial (fun hHeld => ?_)
                  replace HA2 := Aside.mk (HA2.out.below (below_drew1 (Below.refl _ _)))
                  clear q0 q1 q2 q3 x0 x1 x2 x3 x4 x5 H6
                  generalize wy2.drew = wy3 at *
                  refine pure_ (i := 0) (N := some 162) (v := ?_) (a' := ?_) #[true, false, false, false, false, false, false, false, false, false, false, false, false, false, false, false, false, false] rfl rfl (by kernel_rfl) (fun _ _ _ h => h) (Or.inl ⟨by rfl, ?_⟩) ?_ ?_
                  rotate_left
                  · intro w'
                    go_simp
                    with_reducible rfl
                  rotate_left
                  · simp only [Act.put, List.setIfInBounds_toArray, List.set_cons_zero, List.set_cons_succ, i64_w, i32_w]
                    rfl
                  refine pure_ (i := 1) (N := some 163) (v := ?_) (a' := ?_) #[true, true, false, false, false, false, false, false, false, false, false, false, false, false, false, false, false, false] rfl rfl (by kernel_rfl) (fun _ _ _ h => h) (Or.inl ⟨by rfl, ?_⟩) ?_ ?_
                  rotate_left
                  · intro w'
                    go_simp
                    with_reducible rfl
                  rotate_left
                  · simp only [Act.put, List.setIfInBounds_toArray, List.set_cons_zero, List.set_cons_succ, i64_w, i32_w]
                    rfl
                  refine pure_ (i := 2) (N := some 164) (v := undef) (a' := ?_) #[true, true, true, false, false, false, false, false, false, false, false, false, false, false, false, false, false, false] rfl rfl (by kernel_rfl) (fun _ _ _ h => h) (Or.inr ⟨by rfl, rfl⟩) ?_ ?_
                  rotate_left
                  · simp only [Act.put, List.setIfInBounds_toArray, List.set_cons_zero, List.set_cons_succ, i64_w, i32_w]
                    rfl
                  refine pure_ (i := 3) (N := some 165) (v := undef) (a' := ?_) #[true, true, true, true, false, false, false, false, false, false, false, false, false, false, false, false, false, false] rfl rfl (by kernel_rfl) (fun _ _ _ h => h) (Or.inr ⟨by rfl, rfl⟩) ?_ ?_
                  rotate_left
                  · simp only [Act.put, List.setIfInBounds_toArray, List.set_cons_zero, List.set_cons_succ, i64_w, i32_w]
                    rfl
                  refine pure_ (i := 4) (N := some 166) (v := ?_) (a' := ?_) #[true, true, true, true, true, false, false, false, false, false, false, false, false, false, false, false, false, false] rfl rfl (by kernel_rfl) (fun _ _ _ h => h) (Or.inl ⟨by rfl, ?_⟩) ?_ ?_
                  rotate_left
                  · intro w'
                    go_simp
                    with_reducible rfl
                  rotate_left
                  · simp only [Act.put, List.setIfInBounds_toArray, List.set_cons_zero, List.set_cons_succ, i64_w, i32_w]
                    rfl
                  refine pure_ (i := 5) (N := some 167) (v := ?_) (a' := ?_) #[true, true, true, true, true, true, false, false, false, false, false, false, false, false, false, false, false, false] rfl rfl (by kernel_rfl) (fun _ _ _ h => h) (Or.inl ⟨by rfl, ?_⟩) ?_ ?_
                  rotate_left
                  · intro w'
                    go_simp
                    with_reducible rfl
                  rotate_left
                  · simp only [Act.put, List.setIfInBounds_toArray, List.set_cons_zero, List.set_cons_succ, i64_w, i32_w]
                    rfl
                  refine pure_ (i := 6) (N := some 168) (v := undef) (a' := ?_) #[true, true, true, true, true, true, true, false, false, false, false, false, false, false, false, false, false, false] rfl rfl (by kernel_rfl) (fun _ _ _ h => h) (Or.inr ⟨by rfl, rfl⟩) ?_ ?_
                  rotate_left
                  · simp only [Act.put, List.setIfInBounds_toArray, List.set_cons_zero, List.set_cons_succ, i64_w, i32_w]
                    rfl
                  refine pure_ (i := 7) (N := some 169) (v := undef) (a' := ?_) #[true, true, true, true, true, true, true, true, false, false, false, false, false, false, false, false, false, false] rfl rfl (by kernel_rfl) (fun _ _ _ h => h) (Or.inr ⟨by rfl, rfl⟩) ?_ ?_
                  rotate_left
                  · simp only [Act.put, List.setIfInBounds_toArray, List.set_cons_zero, List.set_cons_succ, i64_w, i32_w]
                    rfl
                  refine pure_ (i := 8) (N := some 170) (v := undef) (a' := ?_) #[true, true, true, true, true, true, true, true, true, false, false, false, false, false, false, false, false, false] rfl rfl (by kernel_rfl) (fun _ _ _ h => h) (Or.inr ⟨by rfl, rfl⟩) ?_ ?_
                  rotate_left
                  · simp only [Act.put, List.setIfInBounds_toArray, List.set_cons_zero, List.set_cons_succ, i64_w, i32_w]
                    rfl
                  refine pure_ (i := 9) (N := some 171) (v := undef) (a' := ?_) #[true, true, true, true, true, true, true, true, true, true, false, false, false, false, false, false, false, false] rfl rfl (by kernel_rfl) (fun _ _ _ h => h) (Or.inr ⟨by rfl, rfl⟩) ?_ ?_
                  rotate_left
                  · simp only [Act.put, List.setIfInBounds_toArray, List.set_cons_zero, List.set_cons_succ, i64_w, i32_w]
                    rfl
                  refine pure_ (i := 10) (N := some 172) (v := undef) (a' := ?_) #[true, true, true, true, true, true, true, true, true, true, true, false, false, false, false, false, false, false] rfl rfl (by kernel_rfl) (fun _ _ _ h => h) (Or.inr ⟨by rfl, rfl⟩) ?_ ?_
                  rotate_left
                  · simp only [Act.put, List.setIfInBounds_toArray, List.set_cons_zero, List.set_cons_succ, i64_w, i32_w]
                    rfl
                  refine pure_ (i := 11) (N := some 173) (v := undef) (a' := ?_) #[true, true, true, true, true, true, true, true, true, true, true, true, false, false, false, false, false, false] rfl rfl (by kernel_rfl) (fun _ _ _ h => h) (Or.inr ⟨by rfl, rfl⟩) ?_ ?_
                  rotate_left
                  · simp only [Act.put, List.setIfInBounds_toArray, List.set_cons_zero, List.set_cons_succ, i64_w, i32_w]
                    rfl
                  refine pure_ (i := 12) (N := some 174) (v := undef) (a' := ?_) #[true, true, true, true, true, true, true, true, true, true, true, true, true, false, false, false, false, false] rfl rfl (by kernel_rfl) (fun _ _ _ h => h) (Or.inr ⟨by rfl, rfl⟩) ?_ ?_
                  rotate_left
                  · simp only [Act.put, List.setIfInBounds_toArray, List.set_cons_zero, List.set_cons_succ, i64_w, i32_w]
                    rfl
                  refine pure_ (i := 13) (N := some 175) (v := undef) (a' := ?_) #[true, true, true, true, true, true, true, true, true, true, true, true, true, true, false, false, false, false] rfl rfl (by kernel_rfl) (fun _ _ _ h => h) (Or.inr ⟨by rfl, rfl⟩) ?_ ?_
                  rotate_left
                  · simp only [Act.put, List.setIfInBounds_toArray, List.set_cons_zero, List.set_cons_succ, i64_w, i32_w]
                    rfl
                  refine pure_ (i := 14) (N := some 176) (v := undef) (a' := ?_) #[true, true, true, true, true, true, true, true, true, true, true, true, true, true, true, false, false, false] rfl rfl (by kernel_rfl) (fun _ _ _ h => h) (Or.inr ⟨by rfl, rfl⟩) ?_ ?_
                  rotate_left
                  · simp only [Act.put, List.setIfInBounds_toArray, List.set_cons_zero, List.set_cons_succ, i64_w, i32_w]
                    rfl
                  refine pure_ (i := 15) (N := some 177) (v := undef) (a' := ?_) #[true, true, true, true, true, true, true, true, true, true, true, true, true, true, true, true, false, false] rfl rfl (by kernel_rfl) (fun _ _ _ h => h) (Or.inr ⟨by rfl, rfl⟩) ?_ ?_
                  rotate_left
                  · simp only [Act.put, List.setIfInBounds_toArray, List.set_cons_zero, List.set_cons_succ, i64_w, i32_w]
                    rfl
                  refine pure_ (i := 16) (N := some 178) (v := undef) (a' := ?_) #[true, true, true, true, true, true, true, true, true, true, true, true, true, true, true, true, true, false] rfl rfl (by kernel_rfl) (fun _ _ _ h => h) (Or.inr ⟨by rfl, rfl⟩) ?_ ?_
                  rotate_left
                  · simp only [Act.put, List.setIfInBounds_toArray, List.set_cons_zero, List.set_cons_succ, i64_w, i32_w]
                    rfl
                  refine pure_ (i := 17) (N := some 179) (v := ?_) (a' := ?_) #[true, true, true, true, true, true, true, true, true, true, true, true, true, true, true, true, true, true] rfl rfl (by kernel_rfl) (fun _ _ _ h => h) (Or.inl ⟨by rfl, ?_⟩) ?_ ?_
                  rotate_left
                  · intro w'
                    go_simp
                    with_reducible rfl
                  rotate_left
                  · simp only [Act.put, List.setIfInBounds_toArray, List.set_cons_zero, List.set_cons_succ, i64_w, i32_w]
                    rfl
                  refine done_ (by kernel_rfl) ?_
                  clear hHeld
                  go_wp2_with fail
                  go_roundw
                  case rel => exact ⟨t + 1, by first | rfl | simp, HTL.out, HA2⟩
                  case measure =>
                    simp only [intOf, tn1, Int.toNat_natCast]
                    exact meas1 HTL.out
                | false =>
                  go_wp2_with fail
                  refine start_ (n := 18) (S := fun w' => w'.cell? ⟨Q, 3, none⟩ = some (.bool false) ∧ True) (ds := []) #[false, false, false, false, false, false, false, false, false, false, false, false, false, false, false, false, false, false] (by kernel_rfl) rfl rfl ⟨q3, trivial⟩ (fun hHeld => ?_)
                  replace HA2 := Aside.mk (HA2.out.below (below_drew1 (Below.refl _ _)))
                  clear q0 q1 q2 q3 x0 x1 x2 x3 x4 x5 H6
                  generalize wy2.drew = wy3 at *
                  refine pure_ (i := 0) (N := some 162) (v := ?_) (a' := ?_) #[true, false, false, false, false, false, false, false, false, false, false, false, false, false, false, false, false, false] rfl rfl (by kernel_rfl) (fun _ _ _ h => h) (Or.inl ⟨by rfl, ?_⟩) ?_ ?_
                  rotate_left
                  · intro w'
                    go_simp
                    with_reducible rfl
                  rotate_left
                  · simp only [Act.put, List.setIfInBounds_toArray, List.set_cons_zero, List.set_cons_succ, i64_w, i32_w]
                    rfl
                  refine pure_ (i := 1) (N := some 163) (v := ?_) (a' := ?_) #[true, true, false, false, false, false, false, false, false, false, false, false, false, false, false, false, false, false] rfl rfl (by kernel_rfl) (fun _ _ _ h => h) (Or.inl ⟨by rfl, ?_⟩) ?_ ?_
                  rotate_left
                  · intro w'
                    go_simp
                    with_reducible rfl
                  rotate_left
                  · simp only [Act.put, List.setIfInBounds_toArray, List.set_cons_zero, List.set_cons_succ, i64_w, i32_w]
                    rfl
                  refine pure_ (i := 2) (N := some 164) (v := ?_) (a' := ?_) #[true, true, true, false, false, false, false, false, false, false, false, false, false, false, false, false, false, false] rfl rfl (by kernel_rfl) (fun _ _ _ h => h) (Or.inl ⟨by rfl, ?_⟩) ?_ ?_
                  rotate_left
                  · intro w'
                    go_simp
                    with_reducible rfl
                  rotate_left
                  · simp only [Act.put, List.setIfInBounds_toArray, List.set_cons_zero, List.set_cons_succ, i64_w, i32_w]
                    rfl
                  refine take_ (i := 3) (N := some 165) (v := ?_) (a' := ?_) #[true, true, true, true, false, false, false, false, false, false, false, false, false, false, false, false, false, false] rfl rfl (by kernel_rfl) (fun _ _ _ h => h) (Or.inl ⟨by rfl, ?_⟩) hHeld ?_ ?_
                  rotate_left
                  · rintro w' ⟨s0, s1⟩
                    go_simp
                    with_reducible rfl
                  rotate_left
                  · simp only [Act.put, List.setIfInBounds_toArray, List.set_cons_zero, List.set_cons_succ, i64_w, i32_w]
                    rfl
                  refine pure_ (i := 4) (N := some 166) (v := ?_) (a' := ?_) #[true, true, true, true, true, false, false, false, false, false, false, false, false, false, false, false, false, false] rfl rfl (by kernel_rfl) (fun _ _ _ h => h) (Or.inl ⟨by rfl, ?_⟩) ?_ ?_
                  rotate_left
                  · intro w'
                    go_simp
                    with_reducible rfl
                  rotate_left
                  · simp only [Act.put, List.setIfInBounds_toArray, List.set_cons_zero, List.set_cons_succ, i64_w, i32_w]
                    rfl
                  refine pure_ (i := 5) (N := some 167) (v := ?_) (a' := ?_) #[true, true, true, true, true, true, false, false, false, false, false, false, false, false, false, false, false, false] rfl rfl (by kernel_rfl) (fun _ _ _ h => h) (Or.inl ⟨by rfl, ?_⟩) ?_ ?_
                  rotate_left
                  · intro w'
                    go_simp
                    with_reducible rfl
                  rotate_left
                  · simp only [Act.put, List.setIfInBounds_toArray, List.set_cons_zero, List.set_cons_succ, i64_w, i32_w]
                    rfl
                  refine pure_ (i := 6) (N := some 168) (v := undef) (a' := ?_) #[true, true, true, true, true, true, true, false, false, false, false, false, false, false, false, false, false, false] rfl rfl (by kernel_rfl) (fun _ _ _ h => h) (Or.inr ⟨by rfl, rfl⟩) ?_ ?_
                  rotate_left
                  · simp only [Act.put, List.setIfInBounds_toArray, List.set_cons_zero, List.set_cons_succ, i64_w, i32_w]
                    rfl
                  refine pure_ (i := 7) (N := some 169) (v := undef) (a' := ?_) #[true, true, true, true, true, true, true, true, false, false, false, false, false, false, false, false, false, false] rfl rfl (by kernel_rfl) (fun _ _ _ h => h) (Or.inr ⟨by rfl, rfl⟩) ?_ ?_
                  rotate_left
                  · simp only [Act.put, List.setIfInBounds_toArray, List.set_cons_zero, List.set_cons_succ, i64_w, i32_w]
                    rfl
                  refine pure_ (i := 8) (N := some 170) (v := undef) (a' := ?_) #[true, true, true, true, true, true, true, true, true, false, false, false, false, false, false, false, false, false] rfl rfl (by kernel_rfl) (fun _ _ _ h => h) (Or.inr ⟨by rfl, rfl⟩) ?_ ?_
                  rotate_left
                  · simp only [Act.put, List.setIfInBounds_toArray, List.set_cons_zero, List.set_cons_succ, i64_w, i32_w]
                    rfl
                  refine pure_ (i := 9) (N := some 171) (v := undef) (a' := ?_) #[true, true, true, true, true, true, true, true, true, true, false, false, false, false, false, false, false, false] rfl rfl (by kernel_rfl) (fun _ _ _ h => h) (Or.inr ⟨by rfl, rfl⟩) ?_ ?_
                  rotate_left
                  · simp only [Act.put, List.setIfInBounds_toArray, List.set_cons_zero, List.set_cons_succ, i64_w, i32_w]
                    rfl
                  refine pure_ (i := 10) (N := some 172) (v := undef) (a' := ?_) #[true, true, true, true, true, true, true, true, true, true, true, false, false, false, false, false, false, false] rfl rfl (by kernel_rfl) (fun _ _ _ h => h) (Or.inr ⟨by rfl, rfl⟩) ?_ ?_
                  rotate_left
                  · simp only [Act.put, List.setIfInBounds_toArray, List.set_cons_zero, List.set_cons_succ, i64_w, i32_w]
                    rfl
                  refine pure_ (i := 11) (N := some 173) (v := undef) (a' := ?_) #[true, true, true, true, true, true, true, true, true, true, true, true, false, false, false, false, false, false] rfl rfl (by kernel_rfl) (fun _ _ _ h => h) (Or.inr ⟨by rfl, rfl⟩) ?_ ?_
                  rotate_left
                  · simp only [Act.put, List.setIfInBounds_toArray, List.set_cons_zero, List.set_cons_succ, i64_w, i32_w]
                    rfl
                  refine pure_ (i := 12) (N := some 174) (v := undef) (a' := ?_) #[true, true, true, true, true, true, true, true, true, true, true, true, true, false, false, false, false, false] rfl rfl (by kernel_rfl) (fun _ _ _ h => h) (Or.inr ⟨by rfl, rfl⟩) ?_ ?_
                  rotate_left
                  · simp only [Act.put, List.setIfInBounds_toArray, List.set_cons_zero, List.set_cons_succ, i64_w, i32_w]
                    rfl
                  refine pure_ (i := 13) (N := some 175) (v := undef) (a' := ?_) #[true, true, true, true, true, true, true, true, true, true, true, true, true, true, false, false, false, false] rfl rfl (by kernel_rfl) (fun _ _ _ h => h) (Or.inr ⟨by rfl, rfl⟩) ?_ ?_
                  rotate_left
                  · simp only [Act.put, List.setIfInBounds_toArray, List.set_cons_zero, List.set_cons_succ, i64_w, i32_w]
                    rfl
                  refine pure_ (i := 14) (N := some 176) (v := undef) (a' := ?_) #[true, true, true, true, true, true, true, true, true, true, true, true, true, true, true, false, false, false] rfl rfl (by kernel_rfl) (fun _ _ _ h => h) (Or.inr ⟨by rfl, rfl⟩) ?_ ?_
                  rotate_left
                  · simp only [Act.put, List.setIfInBounds_toArray, List.set_cons_zero, List.set_cons_succ, i64_w, i32_w]
                    rfl
                  refine pure_ (i := 15) (N := some 177) (v := undef) (a' := ?_) #[true, true, true, true, true, true, true, true, true, true, true, true, true, true, true, true, false, false] rfl rfl (by kernel_rfl) (fun _ _ _ h => h) (Or.inr ⟨by rfl, rfl⟩) ?_ ?_
                  rotate_left
                  · simp only [Act.put, List.setIfInBounds_toArray, List.set_cons_zero, List.set_cons_succ, i64_w, i32_w]
                    rfl
                  refine pure_ (i := 16) (N := some 178) (v := undef) (a' := ?_) #[true, true, true, true, true, true, true, true, true, true, true, true, true, true, true, true, true, false] rfl rfl (by kernel_rfl) (fun _ _ _ h => h) (Or.inr ⟨by rfl, rfl⟩) ?_ ?_
                  rotate_left
                  · simp only [Act.put, List.setIfInBounds_toArray, List.set_cons_zero, List.set_cons_succ, i64_w, i32_w]
                    rfl
                  refine pure_ (i := 17) (N := some 179) (v := ?_) (a' := ?_) #[true, true, true, true, true, true, true, true, true, true, true, true, true, true, true, true, true, true] rfl rfl (by kernel_rfl) (fun _ _ _ h => h) (Or.inl ⟨by rfl, ?_⟩) ?_ ?_
                  rotate_left
                  · intro w'
                    go_simp
                    with_reducible rfl
                  rotate_left
                  · simp only [Act.put, List.setIfInBounds_toArray, List.set_cons_zero, List.set_cons_succ, i64_w, i32_w]
                    rfl
                  refine done_ (by kernel_rfl) ?_
                  clear hHeld
                  go_wp2_with fail
                  go_roundw
                  case rel => exact ⟨t + 1, by first | rfl | simp, HTL.out, HA2⟩
                  case measure =>
                    simp only [intOf, tn1, Int.toNat_natCast]
                    exact meas1 HTL.out
              | true =>
                rw [isZ_no rfl]
                have HF3 := Aside.mk (show 0 ≤ hf ∧ 1 ≤ hn ∧ hf + hn ≤ 100000 from by
                  rcases HZB.out with h3 | h3
                  · unfold hz at h3; injection h3 with _ _ _ h3; cases h3
                  · exact h3)
                go_wp2_with fail
                refine start_ (n := 18) (S := fun w' => w'.cell? ⟨Q, 0, none⟩ = some (.int .i64 hf) ∧ w'.cell? ⟨Q, 1, none⟩ = some (.int .i64 hn) ∧ w'.cell? ⟨Q, 3, none⟩ = some (.bool true) ∧ w'.cell? ⟨w.heap.size, 2, none⟩ = some (.int .i64 cp) ∧ True) (ds := []) #[false, false, false, false, false, false, false, false, false, false, false, false, false, false, false, false, false, false] (by kernel_rfl) rfl rfl ⟨q0, q1, q3, x2, trivial⟩ (fun hHeld => ?_)
                replace HA2 := Aside.mk (HA2.out.below (below_drew1 (Below.refl _ _)))
                replace H6 := Aside.mk (blk_drew H6.out)
                clear q0 q1 q2 q3 x0 x1 x2 x3 x4 x5
                generalize wy2.drew = wy3 at *
                have ew1 := w64 (show -4611686018427387904 ≤ hf + hn ∧ hf + hn ≤ 4611686018427387904 by have := HF3.out; omega)
                have ew2 := w64 (show -4611686018427387904 ≤ hf + hn - least st'.gate cx.ends ∧ hf + hn - least st'.gate cx.ends ≤ 4611686018427387904 by have := HF3.out; have := HLB.out; omega)
                have u1 : decide (cp < hf + hn - least st'.gate cx.ends) = false := decide_eq_false (by have := HGR.out (by simp); have := HCX.out.cap; omega)
                refine pure_ (i := 0) (N := some 162) (v := ?_) (a' := ?_) #[true, false, false, false, false, false, false, false, false, false, false, false, false, false, false, false, false, false] rfl rfl (by kernel_rfl) (fun _ _ _ h => h) (Or.inl ⟨by rfl, ?_⟩) ?_ ?_
                rotate_left
                · intro w'
                  go_simp
                  with_reducible rfl
                rotate_left
                · simp only [Act.put, List.setIfInBounds_toArray, List.set_cons_zero, List.set_cons_succ, i64_w, i32_w]
                  rfl
                refine pure_ (i := 1) (N := some 163) (v := ?_) (a' := ?_) #[true, true, false, false, false, false, false, false, false, false, false, false, false, false, false, false, false, false] rfl rfl (by kernel_rfl) (fun _ _ _ h => h) (Or.inl ⟨by rfl, ?_⟩) ?_ ?_
                rotate_left
                · intro w'
                  go_simp
                  with_reducible rfl
                rotate_left
                · simp only [Act.put, List.setIfInBounds_toArray, List.set_cons_zero, List.set_cons_succ, i64_w, i32_w]
                  rfl
                refine pure_ (i := 2) (N := some 164) (v := ?_) (a' := ?_) #[true, true, true, false, false, false, false, false, false, false, false, false, false, false, false, false, false, false] rfl rfl (by kernel_rfl) (fun _ _ _ h => h) (Or.inl ⟨by rfl, ?_⟩) ?_ ?_
                rotate_left
                · intro w'
                  go_simp
                  with_reducible rfl
                rotate_left
                · simp only [Act.put, List.setIfInBounds_toArray, List.set_cons_zero, List.set_cons_succ, i64_w, i32_w]
                  rfl
                refine take_ (i := 3) (N := some 165) (v := ?_) (a' := ?_) #[true, true, true, true, false, false, false, false, false, false, false, false, false, false, false, false, false, false] rfl rfl (by kernel_rfl) (fun _ _ _ h => h) (Or.inl ⟨by rfl, ?_⟩) hHeld ?_ ?_
                rotate_left
                · rintro w' ⟨s0, s1, s2, s3, s4⟩
                  go_simp
                  with_reducible rfl
                rotate_left
                · simp only [Act.put, List.setIfInBounds_toArray, List.set_cons_zero, List.set_cons_succ, i64_w, i32_w]
                  rfl
                refine pure_ (i := 4) (N := some 166) (v := ?_) (a' := ?_) #[true, true, true, true, true, false, false, false, false, false, false, false, false, false, false, false, false, false] rfl rfl (by kernel_rfl) (fun _ _ _ h => h) (Or.inl ⟨by rfl, ?_⟩) ?_ ?_
                rotate_left
                · intro w'
                  go_simp
                  with_reducible rfl
                rotate_left
                · simp only [Act.put, List.setIfInBounds_toArray, List.set_cons_zero, List.set_cons_succ, i64_w, i32_w]
                  rfl
                refine pure_ (i := 5) (N := some 167) (v := ?_) (a' := ?_) #[true, true, true, true, true, true, false, false, false, false, false, false, false, false, false, false, false, false] rfl rfl (by kernel_rfl) (fun _ _ _ h => h) (Or.inl ⟨by rfl, ?_⟩) ?_ ?_
                rotate_left
                · intro w'
                  go_simp
                  with_reducible rfl
                rotate_left
                · simp only [Act.put, List.setIfInBounds_toArray, List.set_cons_zero, List.set_cons_succ, i64_w, i32_w]
                  rfl
                refine pure_ (i := 6) (N := some 168) (v := ?_) (a' := ?_) #[true, true, true, true, true, true, true, false, false, false, false, false, false, false, false, false, false, false] rfl rfl (by kernel_rfl) (fun _ _ _ h => h) (Or.inl ⟨by rfl, ?_⟩) ?_ ?_
                rotate_left
                · intro w'
                  go_simp
                  with_reducible rfl
                rotate_left
                · simp only [Act.put, List.setIfInBounds_toArray, List.set_cons_zero, List.set_cons_succ, i64_w, i32_w]
                  rfl
                refine take_ (i := 7) (N := some 169) (v := ?_) (a' := ?_) #[true, true, true, true, true, true, true, true, false, false, false, false, false, false, false, false, false, false] rfl rfl (by kernel_rfl) (fun _ _ _ h => h) (Or.inl ⟨by rfl, ?_⟩) hHeld ?_ ?_
                rotate_left
                · rintro w' ⟨s0, s1, s2, s3, s4⟩
                  go_simp
                  with_reducible rfl
                rotate_left
                · simp only [Act.put, List.setIfInBounds_toArray, List.set_cons_zero, List.set_cons_succ, i64_w, i32_w]
                  rfl
                refine pure_ (i := 8) (N := some 170) (v := ?_) (a' := ?_) #[true, true, true, true, true, true, true, true, true, false, false, false, false, false, false, false, false, false] rfl rfl (by kernel_rfl) (fun _ _ _ h => h) (Or.inl ⟨by rfl, ?_⟩) ?_ ?_
                rotate_left
                · intro w'
                  go_simp
                  with_reducible rfl
                rotate_left
                · simp only [Act.put, List.setIfInBounds_toArray, List.set_cons_zero, List.set_cons_succ, i64_w, i32_w]
                  rfl
                refine take_ (i := 9) (N := some 171) (v := ?_) (a' := ?_) #[true, true, true, true, true, true, true, true, true, true, false, false, false, false, false, false, false, false] rfl rfl (by kernel_rfl) (fun _ _ _ h => h) (Or.inl ⟨by rfl, ?_⟩) hHeld ?_ ?_
                rotate_left
                · rintro w' ⟨s0, s1, s2, s3, s4⟩
                  go_simp
                  with_reducible rfl
                rotate_left
                · simp only [Act.put, List.setIfInBounds_toArray, List.set_cons_zero, List.set_cons_succ, i64_w, i32_w]
                  rfl
                refine pure_ (i := 10) (N := some 172) (v := ?_) (a' := ?_) #[true, true, true, true, true, true, true, true, true, true, true, false, false, false, false, false, false, false] rfl rfl (by kernel_rfl) (fun _ _ _ h => h) (Or.inl ⟨by rfl, ?_⟩) ?_ ?_
                rotate_left
                · intro w'
                  go_simp
                  with_reducible rfl
                rotate_left
                · simp only [Act.put, List.setIfInBounds_toArray, List.set_cons_zero, List.set_cons_succ, i64_w, i32_w]
                  rfl
                refine pure_ (i := 11) (N := some 173) (v := ?_) (a' := ?_) #[true, true, true, true, true, true, true, true, true, true, true, true, false, false, false, false, false, false] rfl rfl (by kernel_rfl) (fun _ _ _ h => h) (Or.inl ⟨by rfl, ?_⟩) ?_ ?_
                rotate_left
                · intro w'
                  go_simp
                  with_reducible rfl
                rotate_left
                · simp only [Act.put, List.setIfInBounds_toArray, List.set_cons_zero, List.set_cons_succ, i64_w, i32_w]
                  rfl
                refine pure_ (i := 14) (N := some 176) (v := ?_) (a' := ?_) #[true, true, true, true, true, true, true, true, true, true, true, true, false, false, true, false, false, false] rfl rfl (by kernel_rfl) (fun _ _ _ h => h) (Or.inl ⟨by rfl, ?_⟩) ?_ ?_
                rotate_left
                · intro w'
                  go_simp
                  with_reducible rfl
                rotate_left
                · simp only [Act.put, List.setIfInBounds_toArray, List.set_cons_zero, List.set_cons_succ, i64_w, i32_w]
                  rfl
                refine take_ (i := 15) (N := some 177) (v := ?_) (a' := ?_) #[true, true, true, true, true, true, true, true, true, true, true, true, false, false, true, true, false, false] rfl rfl (by kernel_rfl) (fun _ _ _ h => h) (Or.inl ⟨by rfl, ?_⟩) hHeld ?_ ?_
                rotate_left
                · rintro w' ⟨s0, s1, s2, s3, s4⟩
                  go_simp
                  with_reducible rfl
                rotate_left
                · simp only [Act.put, List.setIfInBounds_toArray, List.set_cons_zero, List.set_cons_succ, i64_w, i32_w]
                  rfl
                refine one_ (i := 12) (N := some 174) #[true, true, true, true, true, true, true, true, true, true, true, true, true, false, true, true, false, false] rfl rfl (by kernel_rfl) (by decide) (fun K hK => ?_)
                refine goes_ Tryd.func28 (by kernel_rfl) rfl #[.pointer (some ⟨B, 0, none⟩)] (by rfl) rfl rfl (by (try simp only [List.map_toArray, List.map_cons, List.map_nil]); first | done | rfl) ?_
                refine (pleast _ B k' cx st' HA2.out.m.r).mono ?_
                rintro q wx13 ⟨rfl, hb⟩
                refine ⟨_, rfl, ?_⟩
                replace HA2 := Aside.mk (HA2.out.below hb)
                replace H6 := Aside.mk (blk_below H6.out hb)
                clear hb
                refine hK.out _ _ ⟨(blk_cell H6.out 0).trans rfl, (blk_cell H6.out 1).trans rfl, (blk_cell H6.out 3).trans rfl, (blk_cell HA2.out.x 2).trans rfl, trivial⟩ (fun hHeld => ?_)
                clear hK K
                refine norm_ (a' := ?_) ?_ ?_
                rotate_left
                · show Act.put _ (some 174) _ = _
                  simp only [Act.put, List.setIfInBounds_toArray, List.set_cons_zero, List.set_cons_succ, i64_w, i32_w]
                  rfl
                refine pure_ (i := 13) (N := some 175) (v := ?_) (a' := ?_) #[true, true, true, true, true, true, true, true, true, true, true, true, true, true, true, true, false, false] rfl rfl (by kernel_rfl) (fun _ _ _ h => h) (Or.inl ⟨by rfl, ?_⟩) ?_ ?_
                rotate_left
                · intro w'
                  go_simp
                  with_reducible rfl
                rotate_left
                · simp only [Act.put, List.setIfInBounds_toArray, List.set_cons_zero, List.set_cons_succ, i64_w, i32_w]
                  rfl
                refine pure_ (i := 16) (N := some 178) (v := ?_) (a' := ?_) #[true, true, true, true, true, true, true, true, true, true, true, true, true, true, true, true, true, false] rfl rfl (by kernel_rfl) (fun _ _ _ h => h) (Or.inl ⟨by rfl, ?_⟩) ?_ ?_
                rotate_left
                · intro w'
                  go_simp
                  with_reducible rfl
                rotate_left
                · simp only [Act.put, List.setIfInBounds_toArray, List.set_cons_zero, List.set_cons_succ, i64_w, i32_w]
                  rfl
                refine pure_ (i := 17) (N := some 179) (v := ?_) (a' := ?_) #[true, true, true, true, true, true, true, true, true, true, true, true, true, true, true, true, true, true] rfl rfl (by kernel_rfl) (fun _ _ _ h => h) (Or.inl ⟨by rfl, ?_⟩) ?_ ?_
                rotate_left
                · intro w'
                  go_simp
                  with_reducible rfl
                rotate_left
                · simp only [Act.put, List.setIfInBounds_toArray, List.set_cons_zero, List.set_cons_succ, i64_w, i32_w]
                  rfl
                refine done_ (by kernel_rfl) ?_
                clear H6
                clear hHeld u1 ew1 ew2
                go_wp2_with fail
                go_roundw
                case rel => exact ⟨t + 1, by first | rfl | simp, HTL.out, HA2⟩
                case measure =>
                  simp only [intOf, tn1, Int.toNat_natCast]
                  exact meas1 HTL.out
          have t1 : decide ((j : Int) < (up.length : Int)) = true := decide_eq_true (by omega)
          have t2 : decide (j < up.length) = true := decide_eq_true hlt
          have t3 : (j : Int) < (up.length : Int) := by omega
          have HJ := Aside.mk hlt
          have HJC := Aside.mk (show j < cx.up.length by have := HCX.out.uq; have h2 : up.length = cx.up.length := by rw [this, List.length_map]
                                                         omega)
          have ej := Mo.i1 (show j < 4611686018427387904 by have := HSM.out.1; omega)
          have u1 := HALL.out.gs j
          have u2 := HALL.out.sl j HJC.out
          obtain ⟨gj, hgj⟩ : ∃ g, g = st'.gate.getD j 0 := ⟨_, rfl⟩
          obtain ⟨sj, hsj⟩ : ∃ g, g = st'.saw.getD j 0 := ⟨_, rfl⟩
          obtain ⟨lj, hlj⟩ : ∃ g, g = limit cx st' j := ⟨_, rfl⟩
          rw [← hgj, ← hsj] at u1
          rw [← hsj, ← hlj] at u2
          replace u1 : decide (sj < gj) = false := decide_eq_false (by omega)
          replace u2 : decide (lj < sj) = false := decide_eq_false (by omega)
          have HGJ := Aside.mk hgj
          have HSJ := Aside.mk hsj
          have HLJ := Aside.mk hlj
          clear hgj hsj hlj
          clear hj hlt
          go_wp2_with fail
          clear t1 t2 t3 x0 x1 x2 x3 x4 x5
          refine (qgate HA2.out.m.r HJC.out HGJ.out).mono ?_
          rintro r wy1 ⟨rfl, hb⟩
          replace HA2 := Aside.mk (HA2.out.below hb)
          clear hb
          go_wp2_with fail
          refine (qsaw HA2.out.m.r HJC.out HSJ.out).mono ?_
          rintro r wy2 ⟨rfl, hb⟩
          replace HA2 := Aside.mk (HA2.out.below hb)
          clear hb
          go_wp2_with fail
          refine (qsaw HA2.out.m.r HJC.out HSJ.out).mono ?_
          rintro r wy3 ⟨rfl, hb⟩
          replace HA2 := Aside.mk (HA2.out.below hb)
          clear hb
          go_wp2_with fail
          refine (qlimit HA2.out.m.r HJC.out HLJ.out).mono ?_
          rintro r wy4 ⟨rfl, hb⟩
          replace HA2 := Aside.mk (HA2.out.below hb)
          clear hb
          go_wp2_with fail
          clear u1 u2
          obtain ⟨ad, A0, c0, hA, hrow, hl0, hnum⟩ := row_atA HG.out.rd j HJ.out
          have HAD := Aside.mk hA
          have HRW := Aside.mk hrow
          have HNM := Aside.mk hnum
          have HL20 := Aside.mk (show (up.getD j []).length ≤ 20 from HSM.out.at j)
          have HCC := Aside.mk (fun (n : Nat) (hn : n < (up.getD j []).length) => rowNat HCX.out.uq HJC.out n hn)
          generalize hrw : up.getD j [] = row at *
          clear hA hrow hl0 hnum hrw
          go_loopw [12] (fun x wr => ∃ n : Nat, x = .int .i64 (n : Int) ∧ n ≤ row.length ∧ Aside (HW w wr v wd cp pr sa A C up B k' cx st')) (fun x _ => row.length - (intOf x).toNat)
          case atStart => exact ⟨0, rfl, Nat.zero_le _, HA2⟩
          case round =>
            clear HA2
            obtain ⟨n, rfl, hn, HA2⟩ := hrel
            obtain ⟨x0, x1, x2, x3, x4, x5⟩ := cell6 HA2.out.x
            rw [HAD.out] at x5
            have hr1 : wr.cell? (ad.add j) = some (.slice A0 row.length c0) := (HA2.out.b.cell (World.block_lt_of_cell? _ _ HRW.out)).trans HRW.out
            have j1 : decide ((j : Int) < (up.length : Int)) = true := decide_eq_true (by have := HJ.out; omega)
            have j2 : decide (j < up.length) = true := decide_eq_true HJ.out
            have j3 : (j : Int) < (up.length : Int) := by have := HJ.out; omega
            by_cases hlt : n < row.length
            rotate_left
            · have t1 : decide ((n : Int) < (row.length : Int)) = false := decide_eq_false (by omega)
              have t2 : decide (n < row.length) = false := decide_eq_false hlt
              clear hn hlt
              go_wp2_with fail
              clear t1 t2 x0 x1 x2 x3 x4 x5 hr1 j1 j2 j3
              go_roundw
              case rel => exact ⟨j + 1, by first | rfl | simp, HJ.out, HA2⟩
              case measure =>
                simp only [intOf, tn1, Int.toNat_natCast]
                exact meas1 HJ.out
            have t1 : decide ((n : Int) < (row.length : Int)) = true := decide_eq_true (by omega)
            have t2 : decide (n < row.length) = true := decide_eq_true hlt
            have t3 : (n : Int) < (row.length : Int) := by omega
            have HNL := Aside.mk hlt
            obtain ⟨c, hc1, hc2, hc3⟩ := HCC.out n hlt
            obtain ⟨ad2, hA0, hx⟩ := num_at (Kd.C_below HNM.out HA2.out.b) n hlt
            rw [hc1] at hx
            have HC1 := Aside.mk (And.intro hc2 (hc3 HCX.out.ub))
            subst hA0
            have en := Mo.i1 (show n < 4611686018427387904 by have := HL20.out; omega)
            have HXX := Aside.mk hx
            have HR1 := Aside.mk hr1
            clear hn hlt hc1 hc2 hc3
            go_wp2_with fail
            clear x0 x1 x2 x3 x4
            refine start_ (n := 14) (S := fun w' => w'.cell? ⟨w.heap.size, 5, none⟩ = some (.slice (some ad) up.length C) ∧ w'.cell? (ad.add j) = some (.slice (some ad2) row.length c0) ∧ w'.cell? (ad2.add n) = some (.int .i64 (c : Int)) ∧ True) (ds := []) #[false, false, false, false, false, false, false, false, false, false, false, false, false, false] (by kernel_rfl) rfl rfl ⟨x5, hr1, hx, trivial⟩ (fun hHeld => ?_)
            have HRB := Aside.mk (And.intro hr1 hx)
            have hbd := below_drew1 (Below.refl wr.heap.size wr)
            have HDD := Aside.mk hbd
            have HX5 := Aside.mk x5
            replace HA2 := Aside.mk (HA2.out.below hbd)
            clear hbd x5 hr1 hx
            have HWR := Aside.mk (Below.refl wr.drew.heap.size wr.drew)
            obtain ⟨wz, hwz⟩ : ∃ wz, wz = wr.drew := ⟨_, rfl⟩
            rw [← hwz] at hHeld HA2 ⊢
            clear HWR
            have HH0 := Aside.mk hHeld
            have u1 := HALL.out.gg j HJC.out c HC1.out.1
            obtain ⟨gc, hgc⟩ : ∃ g, g = st'.gate.getD c 0 := ⟨_, rfl⟩
            rw [← hgc, ← HGJ.out] at u1
            replace u1 : decide (gc < gj) = false := decide_eq_false (by omega)
            have HGC := Aside.mk hgc
            clear hgc
            clear hwz HDD HX5 HRB HXX HR1
            refine pure_ (i := 0) (N := some 136) (v := ?_) (a' := ?_) #[true, false, false, false, false, false, false, false, false, false, false, false, false, false] rfl rfl (by kernel_rfl) (fun _ _ _ h => h) (Or.inl ⟨by rfl, ?_⟩) ?_ ?_
            rotate_left
            · intro w'
              go_simp
              with_reducible rfl
            rotate_left
            · simp only [Act.put, List.setIfInBounds_toArray, List.set_cons_zero, List.set_cons_succ, i64_w, i32_w]
              rfl
            refine pure_ (i := 1) (N := some 137) (v := ?_) (a' := ?_) #[true, true, false, false, false, false, false, false, false, false, false, false, false, false] rfl rfl (by kernel_rfl) (fun _ _ _ h => h) (Or.inl ⟨by rfl, ?_⟩) ?_ ?_
            rotate_left
            · intro w'
              go_simp
              with_reducible rfl
            rotate_left
            · simp only [Act.put, List.setIfInBounds_toArray, List.set_cons_zero, List.set_cons_succ, i64_w, i32_w]
              rfl
            refine pure_ (i := 3) (N := some 139) (v := ?_) (a' := ?_) #[true, true, false, true, false, false, false, false, false, false, false, false, false, false] rfl rfl (by kernel_rfl) (fun _ _ _ h => h) (Or.inl ⟨by rfl, ?_⟩) ?_ ?_
            rotate_left
            · intro w'
              go_simp
              with_reducible rfl
            rotate_left
            · simp only [Act.put, List.setIfInBounds_toArray, List.set_cons_zero, List.set_cons_succ, i64_w, i32_w]
              rfl
            refine pure_ (i := 4) (N := some 140) (v := ?_) (a' := ?_) #[true, true, false, true, true, false, false, false, false, false, false, false, false, false] rfl rfl (by kernel_rfl) (fun _ _ _ h => h) (Or.inl ⟨by rfl, ?_⟩) ?_ ?_
            rotate_left
            · intro w'
              go_simp
              with_reducible rfl
            rotate_left
            · simp only [Act.put, List.setIfInBounds_toArray, List.set_cons_zero, List.set_cons_succ, i64_w, i32_w]
              rfl
            refine take_ (i := 5) (N := some 141) (v := ?_) (a' := ?_) #[true, true, false, true, true, true, false, false, false, false, false, false, false, false] rfl rfl (by kernel_rfl) (fun _ _ _ h => h) (Or.inl ⟨by rfl, ?_⟩) hHeld ?_ ?_
            rotate_left
            · rintro w' ⟨s0, s1, s2, s3⟩
              go_simp
              with_reducible rfl
            rotate_left
            · simp only [Act.put, List.setIfInBounds_toArray, List.set_cons_zero, List.set_cons_succ, i64_w, i32_w]
              rfl
            refine pure_ (i := 6) (N := some 142) (v := ?_) (a' := ?_) #[true, true, false, true, true, true, true, false, false, false, false, false, false, false] rfl rfl (by kernel_rfl) (fun _ _ _ h => h) (Or.inl ⟨by rfl, ?_⟩) ?_ ?_
            rotate_left
            · intro w'
              go_simp
              with_reducible rfl
            rotate_left
            · simp only [Act.put, List.setIfInBounds_toArray, List.set_cons_zero, List.set_cons_succ, i64_w, i32_w]
              rfl
            refine pure_ (i := 7) (N := some 143) (v := ?_) (a' := ?_) #[true, true, false, true, true, true, true, true, false, false, false, false, false, false] rfl rfl (by kernel_rfl) (fun _ _ _ h => h) (Or.inl ⟨by rfl, ?_⟩) ?_ ?_
            rotate_left
            · intro w'
              go_simp
              with_reducible rfl
            rotate_left
            · simp only [Act.put, List.setIfInBounds_toArray, List.set_cons_zero, List.set_cons_succ, i64_w, i32_w]
              rfl
            refine take_ (i := 8) (N := some 144) (v := ?_) (a' := ?_) #[true, true, false, true, true, true, true, true, true, false, false, false, false, false] rfl rfl (by kernel_rfl) (fun _ _ _ h => h) (Or.inl ⟨by rfl, ?_⟩) hHeld ?_ ?_
            rotate_left
            · rintro w' ⟨s0, s1, s2, s3⟩
              go_simp
              with_reducible rfl
            rotate_left
            · simp only [Act.put, List.setIfInBounds_toArray, List.set_cons_zero, List.set_cons_succ, i64_w, i32_w]
              rfl
            refine pure_ (i := 9) (N := some 145) (v := ?_) (a' := ?_) #[true, true, false, true, true, true, true, true, true, true, false, false, false, false] rfl rfl (by kernel_rfl) (fun _ _ _ h => h) (Or.inl ⟨by rfl, ?_⟩) ?_ ?_
            rotate_left
            · intro w'
              go_simp
              with_reducible rfl
            rotate_left
            · simp only [Act.put, List.setIfInBounds_toArray, List.set_cons_zero, List.set_cons_succ, i64_w, i32_w]
              rfl
            refine pure_ (i := 10) (N := some 146) (v := ?_) (a' := ?_) #[true, true, false, true, true, true, true, true, true, true, true, false, false, false] rfl rfl (by kernel_rfl) (fun _ _ _ h => h) (Or.inl ⟨by rfl, ?_⟩) ?_ ?_
            rotate_left
            · intro w'
              go_simp
              with_reducible rfl
            rotate_left
            · simp only [Act.put, List.setIfInBounds_toArray, List.set_cons_zero, List.set_cons_succ, i64_w, i32_w]
              rfl
            refine take_ (i := 11) (N := some 147) (v := ?_) (a' := ?_) #[true, true, false, true, true, true, true, true, true, true, true, true, false, false] rfl rfl (by kernel_rfl) (fun _ _ _ h => h) (Or.inl ⟨by rfl, ?_⟩) hHeld ?_ ?_
            rotate_left
            · rintro w' ⟨s0, s1, s2, s3⟩
              go_simp
              with_reducible rfl
            rotate_left
            · simp only [Act.put, List.setIfInBounds_toArray, List.set_cons_zero, List.set_cons_succ, i64_w, i32_w]
              rfl
            refine one_ (i := 2) (N := some 138) #[true, true, true, true, true, true, true, true, true, true, true, true, false, false] rfl rfl (by kernel_rfl) (by decide) (fun K hK => ?_)
            refine goes_ Tryd.func31 (by kernel_rfl) rfl #[.pointer (some ⟨B, 0, none⟩), .int .i64 (j : Int)] (by rfl) rfl rfl (by (try simp only [List.map_toArray, List.map_cons, List.map_nil]); first | done | rfl) ?_
            refine (qgate HA2.out.m.r HJC.out HGJ.out).mono ?_
            rintro q wx11 ⟨rfl, hb⟩
            refine ⟨_, rfl, ?_⟩
            replace HA2 := Aside.mk (HA2.out.below hb)
            replace HH0 := Aside.mk (held19 hb HH0.out)
            clear hb
            refine hK.out _ _ HH0.out (fun hHeld => ?_)
            clear hK K
            refine norm_ (a' := ?_) ?_ ?_
            rotate_left
            · show Act.put _ (some 138) _ = _
              simp only [Act.put, List.setIfInBounds_toArray, List.set_cons_zero, List.set_cons_succ, i64_w, i32_w]
              rfl
            refine one_ (i := 12) (N := some 148) #[true, true, true, true, true, true, true, true, true, true, true, true, true, false] rfl rfl (by kernel_rfl) (by decide) (fun K hK => ?_)
            refine goes_ Tryd.func31 (by kernel_rfl) rfl #[.pointer (some ⟨B, 0, none⟩), .int .i64 (c : Int)] (by rfl) rfl rfl (by (try simp only [List.map_toArray, List.map_cons, List.map_nil]); first | done | rfl) ?_
            refine (qgate HA2.out.m.r HC1.out.2 HGC.out).mono ?_
            rintro q wx12 ⟨rfl, hb⟩
            refine ⟨_, rfl, ?_⟩
            replace HA2 := Aside.mk (HA2.out.below hb)
            replace HH0 := Aside.mk (held19 hb HH0.out)
            clear hb
            refine hK.out _ _ HH0.out (fun hHeld => ?_)
            clear hK K
            refine norm_ (a' := ?_) ?_ ?_
            rotate_left
            · show Act.put _ (some 148) _ = _
              simp only [Act.put, List.setIfInBounds_toArray, List.set_cons_zero, List.set_cons_succ, i64_w, i32_w]
              rfl
            refine pure_ (i := 13) (N := some 149) (v := ?_) (a' := ?_) #[true, true, true, true, true, true, true, true, true, true, true, true, true, true] rfl rfl (by kernel_rfl) (fun _ _ _ h => h) (Or.inl ⟨by rfl, ?_⟩) ?_ ?_
            rotate_left
            · intro w'
              go_simp
              with_reducible rfl
            rotate_left
            · simp only [Act.put, List.setIfInBounds_toArray, List.set_cons_zero, List.set_cons_succ, i64_w, i32_w]
              rfl
            refine done_ (by kernel_rfl) ?_
            clear hHeld t1 t2 t3 j1 j2 j3 u1
            go_wp2_with fail
            go_roundw
            case rel => exact ⟨n + 1, by first | rfl | simp, HNL.out, HA2⟩
            case measure =>
              simp only [intOf, tn1, Int.toNat_natCast]
              exact meas1 HNL.out
end Go.Proofs.YtnnfcdffnckoiaaDoor.Mo
