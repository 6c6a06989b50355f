/- What the laws of the ledgers share. -/
import Derived.Test.YtgibmlbdkijflaaDoorSoSix
import Derived.OwnWalk
import Derived.DataElems
set_option linter.unusedVariables false
set_option linter.unusedSimpArgs false
set_option maxRecDepth 100000
namespace Go.Proofs.YtgibmlbdkijflaaDoor.So
open Go.RowKit Go.Proofs.YtgibmlbdkijflaaDoorW.PrintWords Go.Proofs.YtgibmlbdkijflaaDoorW.PrintLast Go.Proofs.YtgibmlbdkijflaaDoorW.PrintMore
open Ow
open Mo (Aside Cx U64 I64 ints least run cutW plusW New below_low tn1 meas1 w64 i1 wrapE)
open QGc (checkC)
open Graph (checkG Gv)
open Mo (Ev CxOk)
open Graph (Tabled)
open QSo (S41 S39 k41 rd_T41 S44 k44)
theorem ws1 {i : Nat} (h : i < 4611686018427387904) : wrap64 ((i : Int) + 1) = ((i + 1 : Nat) : Int) := by rw [w64 (by omega)]; omega
theorem rdL9 (up : List (List Int)) (i : Nat) : QSo.rd_L1 up (i : Int) = up.getD i [] := by simp [QSo.rd_L1]
theorem long9_loop (up : List (List Int)) : ∀ (d k i : Nat), 20 - i = d → i ≤ 20 → (∀ j, j < i → (up.getD j []).length ≤ 20) → 2 * d + 1 < k → ∃ b, QSo.sakialaw09_Long.l0 k up (i : Int) = some b ∧ (b = false → QGc.Sm up) := by
  intro d
  induction d with
  | zero =>
    intro k i hd hi hj hk
    obtain ⟨k, rfl⟩ : ∃ n, k = n + 2 := ⟨k - 2, by omega⟩
    have e : QSo.sakialaw09_Long.l0 (k + 2) up (i : Int) = some (decide ((up.length : Int) > 20)) := by
      simp only [QSo.sakialaw09_Long.l0]
      have e2 : decide ((i : Int) < 20) = false := decide_eq_false (by omega)
      rw [e2]
      simp only [QSo.sakialaw09_Long.j1]
      split <;> rfl
    refine ⟨_, e, fun hb => ?_⟩
    have hl : up.length ≤ 20 := by have := of_decide_eq_false hb; omega
    exact ⟨hl, fun x hx => by
      obtain ⟨j, hj2, rfl⟩ := List.mem_iff_getElem.1 hx
      have := hj j (by omega)
      rwa [List.getD_eq_getElem?_getD, List.getElem?_eq_getElem hj2] at this⟩
  | succ d ih =>
    intro k i hd hi hj hk
    obtain ⟨k, rfl⟩ : ∃ n, k = n + 2 := ⟨k - 2, by omega⟩
    simp only [QSo.sakialaw09_Long.l0]
    by_cases hlt : i < up.length
    · rw [if_pos (by omega), decide_eq_true (by omega : (i : Int) < 20)]
      simp only [QSo.sakialaw09_Long.j1]
      rw [if_pos trivial, if_pos (by omega), if_pos (by omega), rdL9]
      by_cases hc : ((up.getD i []).length : Int) > 20
      · exact ⟨true, by rw [if_pos hc], fun h => by simp at h⟩
      · rw [if_neg hc, ws1 (by omega)]
        exact ih k (i + 1) (by omega) (by omega) (fun j hji => by
          by_cases e : j = i
          · subst e; omega
          · exact hj j (by omega)) (by omega)
    · rw [if_neg (by omega)]
      simp only [QSo.sakialaw09_Long.j1]
      rw [if_neg (by simp)]
      refine ⟨_, rfl, fun _ => ⟨by omega, fun x hx => ?_⟩⟩
      obtain ⟨j, hj2, rfl⟩ := List.mem_iff_getElem.1 hx
      have := hj j (by omega)
      rwa [List.getD_eq_getElem?_getD, List.getElem?_eq_getElem hj2] at this
theorem long9 (up : List (List Int)) (k : Nat) (hk : 100 ≤ k) : ∃ b, QSo.sakialaw09_Long.f k up = some b ∧ (b = false → QGc.Sm up) :=
  long9_loop up 20 k 0 (by omega) (by omega) (fun j hj => by omega) (by omega)
theorem rdT41 (l : List S41) (i : Nat) (h : i < l.length) : rd_T41 l (i : Int) = l[i] := by simp [rd_T41, h]
def SmallA (n : Nat) (l : List S41) : Prop := l.length ≤ n ∧ ∀ x ∈ l, x.f1.f2.length ≤ 100
theorem long26_loop (n : Nat) (hn : n ≤ 1000) (l : List S41) (v wd cp pr sa : Int) (up : List (List Int)) : ∀ (d k i : Nat), n - i = d → i ≤ n → (∀ j (h : j < l.length), j < i → l[j].f1.f2.length ≤ 100) → 2 * d + 300 < k → ∃ b, QSo.sakialaw26_Long.l0 k l (n : Int) (i : Int) v wd cp pr sa up = some b ∧ (b = false → SmallA n l ∧ QGc.Sm up) := by
  have hfin : ∀ k : Nat, 200 ≤ k → ∃ b, ((QSo.sakialaw09_Long.f k up).bind fun t104 => (if t104 = true then (some true) else (some (decide ((l.length : Int) > (n : Int)))))) = some b ∧ (b = false → l.length ≤ n ∧ QGc.Sm up) := fun k hk => by
    obtain ⟨b9, hb, hs⟩ := long9 up k (by omega)
    rw [hb]
    cases b9 with
    | true => exact ⟨true, rfl, fun h => by cases h⟩
    | false => exact ⟨decide ((l.length : Int) > (n : Int)), rfl, fun h => ⟨by have := of_decide_eq_false h; omega, hs rfl⟩⟩
  intro d
  induction d with
  | zero =>
    intro k i hd hi hj hk
    obtain ⟨k, rfl⟩ : ∃ m, k = m + 2 := ⟨k - 2, by omega⟩
    have e : (if (i : Int) < (l.length : Int) then QSo.sakialaw26_Long.j1 (k + 1) l (n : Int) (i : Int) (decide ((i : Int) < (n : Int))) v wd cp pr sa up else QSo.sakialaw26_Long.j1 (k + 1) l (n : Int) (i : Int) false v wd cp pr sa up) = QSo.sakialaw26_Long.j1 (k + 1) l (n : Int) (i : Int) false v wd cp pr sa up := by
      split
      · rw [decide_eq_false (by omega)]
      · rfl
    obtain ⟨b, h1, h2⟩ := hfin k (by omega)
    refine ⟨b, ?_, fun hb => ⟨⟨(h2 hb).1, fun x hx => ?_⟩, (h2 hb).2⟩⟩
    · simp only [QSo.sakialaw26_Long.l0]
      rw [e]
      simp only [QSo.sakialaw26_Long.j1]
      rw [if_neg (by simp)]
      exact h1
    · obtain ⟨j, hj2, rfl⟩ := List.mem_iff_getElem.1 hx
      exact hj j hj2 (by have := (h2 hb).1; omega)
  | succ d ih =>
    intro k i hd hi hj hk
    obtain ⟨k, rfl⟩ : ∃ m, k = m + 2 := ⟨k - 2, by omega⟩
    simp only [QSo.sakialaw26_Long.l0]
    by_cases hlt : i < l.length
    · rw [if_pos (by omega), decide_eq_true (by omega : (i : Int) < (n : Int))]
      simp only [QSo.sakialaw26_Long.j1]
      rw [if_pos trivial, if_pos (by omega), if_pos (by omega), rdT41 l i hlt]
      by_cases hc : (l[i].f1.f2.length : Int) > 100
      · exact ⟨true, by rw [if_pos hc], fun h => by simp at h⟩
      · rw [if_neg hc, ws1 (by omega)]
        exact ih k (i + 1) (by omega) (by omega) (fun j h hji => by
          by_cases e : j = i
          · subst e; omega
          · exact hj j h (by omega)) (by omega)
    · rw [if_neg (by omega)]
      simp only [QSo.sakialaw26_Long.j1]
      rw [if_neg (by simp)]
      obtain ⟨b, h1, h2⟩ := hfin k (by omega)
      refine ⟨b, h1, fun hb => ⟨⟨(h2 hb).1, fun x hx => ?_⟩, (h2 hb).2⟩⟩
      obtain ⟨j, hj2, rfl⟩ := List.mem_iff_getElem.1 hx
      exact hj j hj2 (by omega)
theorem long26 (n : Nat) (hn : n ≤ 1000) {A : Option Addr} {C : Nat} {l : List S41} {A0 : Option Addr} {C0 : Nat} {up : List (List Int)} (v wd cp pr sa : Int) {w : World} (hr : Kd.C k41 w A l.length l) (hC : l.length ≤ C) (hu : Kd.C (Kd.slice 3 (Kd.int .i64)) w A0 up.length up) (hC0 : up.length ≤ C0) : ∃ b, (b = false → SmallA n l ∧ QGc.Sm up) ∧ Calls Tryd.prog 6 #[.agg #[.int .i64 v, .int .i64 wd, .int .i64 cp, .int .i64 pr, .int .u64 sa, .slice A0 up.length C0], .slice A l.length C, .int .i64 (n : Int)] w fun e w' => e = .returned (.bool b) ∧ Below w.heap.size w w' := by
  obtain ⟨b, hb, hs⟩ := long26_loop n hn l v wd cp pr sa up n 3000 0 (by omega) (by omega) (fun j h hj => by omega) (by omega)
  exact ⟨b, hs, (QSo.sakialaw26_Long.calls 3000 v wd cp pr sa A0 C0 up A C l n b w hu hC0 hr hC hb).mono fun e w' h => h⟩
theorem rcheck10 {w : World} {v wd cp pr sa : Int} {A : Option Addr} {C : Nat} {up : List (List Int)} (h : Gv w A C up) : Calls Tryd.prog 9 #[.agg #[.int .i64 v, .int .i64 wd, .int .i64 cp, .int .i64 pr, .int .u64 sa, .slice A up.length C]] w fun e w' => e = .returned (.int .i64 (checkC v wd cp pr up)) ∧ Below w.heap.size w w' :=
  QCf.sakiaref10_Check.calls 200 v wd cp pr sa A C up _ w h.rd h.cap (QCf.ref_check_ok v wd cp pr sa up 200 (Nat.le_refl _))
theorem same05 (l : List Int) (hl : l.length ≤ 100000) : ∀ (d k i : Nat), l.length - i = d → i ≤ l.length → d < k → QSo.sakiaref05_Same.l0 k l l (i : Int) = some true := by
  intro d
  induction d with
  | zero =>
    intro k i hd hi hk
    obtain ⟨k, rfl⟩ : ∃ m, k = m + 1 := ⟨k - 1, by omega⟩
    simp only [QSo.sakiaref05_Same.l0]
    rw [if_neg (by omega)]
  | succ d ih =>
    intro k i hd hi hk
    obtain ⟨k, rfl⟩ : ∃ m, k = m + 1 := ⟨k - 1, by omega⟩
    simp only [QSo.sakiaref05_Same.l0]
    rw [if_pos (by omega), if_pos (by omega), if_pos (by omega), if_pos trivial, ws1 (by omega)]
    exact ih k (i + 1) (by omega) (by omega) (by omega)
def s44 (e : Ev) : S44 := ⟨e.kind, e.thread, e.op, e.n, e.pos, e.code, e.data⟩
theorem same15 (e : Ev) (hl : e.data.length ≤ 100000) : QSo.sakiaref15_Same.f (e.data.length + 4) [s44 e] [s44 e] = some true := by
  have h1 : ∀ k : Nat, e.data.length < k → QSo.sakiaref15_One.f k e.kind e.thread e.op e.n e.pos e.code e.data e.kind e.thread e.op e.n e.pos e.code e.data = some true := fun k hk => by
    unfold QSo.sakiaref15_One.f QSo.sakiaref05_Same.f
    rw [if_pos rfl, if_pos rfl, if_pos rfl, if_pos rfl, if_pos rfl, if_pos rfl, if_pos rfl, show (0 : Int) = ((0 : Nat) : Int) from rfl, same05 e.data hl e.data.length k 0 (by omega) (by omega) hk]
    rfl
  obtain ⟨m, hm⟩ : ∃ m, m = e.data.length + 2 := ⟨_, rfl⟩
  have h2 : QSo.sakiaref15_Same.l0 (m + 1) [s44 e] [s44 e] 1 = some true := by
    simp only [QSo.sakiaref15_Same.l0]
    rw [if_neg (by simp)]
  unfold QSo.sakiaref15_Same.f
  rw [if_pos rfl, show e.data.length + 4 = (m + 1) + 1 by omega]
  have h3 := h1 (m + 1) (by omega)
  have e0 : QSo.rd_T44 [s44 e] 0 = s44 e := rfl
  rw [QSo.sakiaref15_Same.l0, if_pos (by simp), if_pos (by omega), if_pos (by simp), e0, show wrap64 (0 + 1) = 1 by rw [w64 (by omega)]; rfl]
  show (Option.bind (QSo.sakiaref15_One.f (m + 1) e.kind e.thread e.op e.n e.pos e.code e.data e.kind e.thread e.op e.n e.pos e.code e.data) _) = _
  rw [h3]
  exact h2
theorem one_row {W : World} {g : Nat} {e : Ev} {A : Option Addr} {C : Nat} (hb : W.heap[g]? = some (.cells (evV e A C) 44 (0, 0))) (hC : e.data.length ≤ C) (hd : (Kd.int .i64).C W A e.data.length e.data) : Kd.C k44 W (some ⟨g, 0, none⟩) [s44 e].length [s44 e] :=
  ⟨rfl, by show (1 : Nat) ≤ 9223372036854775807; decide, fun _ => ⟨_, rfl, fun j x hx => by
    obtain rfl : j = 0 := by
      have := (List.getElem?_eq_some_iff.1 hx).1
      simpa using this
    injection hx with hx
    subst hx
    refine ⟨_, rfl, QSo.k44_mk W (s44 e) hC hd, fun i u hu => ?_⟩
    rw [add_plain]
    have hi := (List.getElem?_eq_some_iff.1 hu).1
    have hi7 : i < 7 := hi
    match i, hi7 with
    | 0, _ => injection hu with hu; subst hu; exact (blk_cell hb 0).trans rfl
    | 1, _ => injection hu with hu; subst hu; exact (blk_cell hb 1).trans rfl
    | 2, _ => injection hu with hu; subst hu; exact (blk_cell hb 2).trans rfl
    | 3, _ => injection hu with hu; subst hu; exact (blk_cell hb 3).trans rfl
    | 4, _ => injection hu with hu; subst hu; exact (blk_cell hb 4).trans rfl
    | 5, _ => injection hu with hu; subst hu; exact (blk_cell hb 5).trans rfl
    | 6, _ => injection hu with hu; subst hu; exact (blk_cell hb 6).trans rfl⟩⟩
set_option maxHeartbeats 4000000 in
theorem one_true (e : Ev) (hl : e.data.length ≤ 100000) {w : World} {A1 A2 : Option Addr} {C1 C2 : Nat} (h1 : (Kd.int .i64).C w A1 e.data.length e.data) (hc1 : e.data.length ≤ C1) (h2 : (Kd.int .i64).C w A2 e.data.length e.data) (hc2 : e.data.length ≤ C2) :
    Calls Tryd.prog 16 #[.agg (evV e A1 C1), .agg (evV e A2 C2)] w fun r w' => r = .returned (.bool true) ∧ Below w.heap.size w w' := by
  have HS := Aside.mk (same15 e hl)
  have h01 := heap_alloc_new w (.cells (evV e A1 C1) 44)
  have h02 := blk_alloc h01 (.cells (evV e A2 C2) 44)
  have h12 := heap_alloc_new (w.alloc (.cells (evV e A1 C1) 44)) (.cells (evV e A2 C2) 44)
  rw [World.size_alloc] at h12
  have hb2 := below_alloc (below_alloc (Below.refl w.heap.size w) (.cells (evV e A1 C1) 44)) (.cells (evV e A2 C2) 44)
  have HA := Aside.mk h02
  have HB := Aside.mk h12
  have HW := Aside.mk hb2
  have H1 := Aside.mk (Kd.F_below (Kd.C_F (Kd.heap_int .i64) h1) hb2)
  have H2 := Aside.mk (Kd.F_below (Kd.C_F (Kd.heap_int .i64) h2) hb2)
  have HC1 := Aside.mk hc1
  have HC2 := Aside.mk hc2
  clear h1 h2 hc1 hc2 h01 h02 h12 hb2 hl
  go_enter Tryd.func16, Tryd.ntmps16
  go_upto_region 1 with (fail)
  generalize (w.alloc (.cells (evV e A1 C1) 44)).alloc (.cells (evV e A2 C2) 44) = w2 at *
  obtain ⟨a0, a1, a2, a3, a4, a5, a6⟩ := Mo.cell7 HA.out
  obtain ⟨b0, b1, b2, b3, b4, b5, b6⟩ := Mo.cell7 HB.out
  have p0 := fun o => pw_cell_below (below_alloc (Below.refl _ w2) o) b0
  have p1 := fun o => pw_cell_below (below_alloc (Below.refl _ w2) o) b1
  have p2 := fun o => pw_cell_below (below_alloc (Below.refl _ w2) o) b2
  have p3 := fun o => pw_cell_below (below_alloc (Below.refl _ w2) o) b3
  have p4 := fun o => pw_cell_below (below_alloc (Below.refl _ w2) o) b4
  have p5 := fun o => pw_cell_below (below_alloc (Below.refl _ w2) o) b5
  have p6 := fun o => pw_cell_below (below_alloc (Below.refl _ w2) o) b6
  go_wp2_with fail
  clear a0 a1 a2 a3 a4 a5 a6 b0 b1 b2 b3 b4 b5 b6 p0 p1 p2 p3 p4 p5 p6
  have q1 := blk_alloc (heap_alloc_new w2 (.cells (evV e A1 C1) 44)) (.cells (evV e A2 C2) 44)
  have q2 := heap_alloc_new (w2.alloc (.cells (evV e A1 C1) 44)) (.cells (evV e A2 C2) 44)
  rw [World.size_alloc] at q2
  have qb := below_alloc (below_alloc (Below.refl w2.heap.size w2) (.cells (evV e A1 C1) 44)) (.cells (evV e A2 C2) 44)
  have HW2 := Aside.mk (HW.out.trans (qb.mono HW.out.size))
  refine (QSo.sakiaref15_Same.calls (e.data.length + 4) (some ⟨w2.heap.size, 0, none⟩) 1 [s44 e] (some ⟨w2.heap.size + 1, 0, none⟩) 1 [s44 e] true _ (one_row q1 HC1.out (Kd.F_now (Kd.F_below H1.out qb))) (Nat.le_refl _) (one_row q2 HC2.out (Kd.F_now (Kd.F_below H2.out qb))) (Nat.le_refl _) HS.out).mono ?_
  rintro r w3 ⟨rfl, hb⟩
  replace HW2 := Aside.mk (HW2.out.trans (hb.mono HW2.out.size))
  clear hb q1 q2 qb
  go_wp2
  go_ret
  exact ⟨rfl, HW2.out⟩
def boundL (cp : Int) (n : Nat) : Int := wrap64 (3 * (wrap64 ((wrap64 ((wrap64 (4 * cp)) + (n : Int))) + 8)))
theorem rbound {w : World} {v wd cp pr sa : Int} {A : Option Addr} {C : Nat} {up : List (List Int)} (h : Gv w A C up) : Calls Tryd.prog 18 #[.agg #[.int .i64 v, .int .i64 wd, .int .i64 cp, .int .i64 pr, .int .u64 sa, .slice A up.length C]] w fun e w' => e = .returned (.int .i64 (boundL cp up.length)) ∧ Below w.heap.size w w' :=
  (QSo.sakiaref31_Bound.calls v wd cp pr sa A C up (boundL cp up.length) w h.rd h.cap rfl).mono fun e w' h => h
def boundP (v wd cp pr : Int) (up : List (List Int)) : Int := if checkC v wd cp pr up = 0 then boundL cp up.length else 0
set_option maxHeartbeats 4000000 in
theorem pbound {w : World} {v wd cp pr sa : Int} {A : Option Addr} {C : Nat} {up : List (List Int)} (h : Gv w A C up) : Calls Tryd.prog 10 #[.agg #[.int .i64 v, .int .i64 wd, .int .i64 cp, .int .i64 pr, .int .u64 sa, .slice A up.length C]] w fun e w' => e = .returned (.int .i64 (boundP v wd cp pr up)) ∧ Below w.heap.size w w' := by
  have hb0 := below_alloc (Below.refl w.heap.size w) (.cells #[.int .i64 v, .int .i64 wd, .int .i64 cp, .int .i64 pr, .int .u64 sa, .slice A up.length C] 25)
  have HX := heap_alloc_new w (.cells #[.int .i64 v, .int .i64 wd, .int .i64 cp, .int .i64 pr, .int .u64 sa, .slice A up.length C] 25)
  have HP := Aside.mk (Mo.pcheck (v := v) (wd := wd) (cp := cp) (pr := pr) (sa := sa) (h.below hb0))
  obtain ⟨x0, x1, x2, x3, x4, x5⟩ := Mo.cell6 HX
  have HB := Aside.mk hb0
  have HX' := Aside.mk HX
  clear h hb0 HX
  go_enter Tryd.func10, Tryd.ntmps10
  go_upto_region 1 with (fail)
  generalize w.alloc (.cells #[.int .i64 v, .int .i64 wd, .int .i64 cp, .int .i64 pr, .int .u64 sa, .slice A up.length C] 25) = w2 at *
  go_wp2_with fail
  refine HP.out.mono ?_
  rintro r w3 ⟨rfl, hb⟩
  clear x0 x1 x2 x3 x4 x5 HP
  obtain ⟨x0, x1, x2, x3, x4, x5⟩ := Mo.cell6 (blk_below HX'.out hb)
  have HB3 := Aside.mk (HB.out.trans (hb.mono HB.out.size))
  clear hb
  by_cases hc : checkC v wd cp pr up = 0
  · have t1 : (checkC v wd cp pr up != 0) = false := by rw [hc]; rfl
    have HE := Aside.mk (show boundP v wd cp pr up = boundL cp up.length by unfold boundP; rw [if_pos hc])
    clear hc
    generalize checkC v wd cp pr up = code at *
    have HE2 := Aside.mk (show boundL cp up.length = wrap64 (3 * (wrap64 ((wrap64 ((wrap64 (4 * cp)) + (up.length : Int))) + 8))) from rfl)
    go_wp2
    go_ret
    exact ⟨by rw [HE.out, HE2.out] <;> rfl, HB3.out⟩
  · have t1 : (checkC v wd cp pr up != 0) = true := by simpa using hc
    have HE := Aside.mk (show boundP v wd cp pr up = 0 by unfold boundP; rw [if_neg hc])
    clear hc
    generalize checkC v wd cp pr up = code at *
    go_wp2
    go_ret
    exact ⟨by rw [HE.out] <;> rfl, HB3.out⟩
def cl (x : S41) : Cl := ⟨x.f1.f0, x.f1.f1, x.f1.f2⟩
def ActC (W : World) (base : Nat) (A : Option Addr) (l : List S41) (bs : Nat → Option Addr × Nat) : Prop := ∀ j (h : j < l.length), ∃ ad, A = some ad ∧ W.cell? (ad.add (j * 4)) = some (.int .i64 l[j].f0) ∧ W.cell? ⟨(ad.add (j * 4)).block, (ad.add (j * 4)).off + 1, none⟩ = some (.int .i64 l[j].f1.f0) ∧ W.cell? ⟨(ad.add (j * 4)).block, (ad.add (j * 4)).off + 2, none⟩ = some (.int .i64 l[j].f1.f1) ∧ W.cell? ⟨(ad.add (j * 4)).block, (ad.add (j * 4)).off + 3, none⟩ = some (.slice (bs j).1 l[j].f1.f2.length (bs j).2) ∧ l[j].f1.f2.length ≤ (bs j).2 ∧ Kd.F (Kd.int .i64) W (fun q => q < base) (bs j).1 l[j].f1.f2.length l[j].f1.f2
theorem add_at (ad : Addr) (m i : Nat) (hi : 0 < i) : (⟨(ad.add m).block, (ad.add m).off + i, none⟩ : Addr) = ad.add (m + i) := by
  unfold Addr.add
  by_cases hm : m = 0
  · subst hm
    rw [if_pos rfl, if_neg (by omega), Nat.zero_add]
  · rw [if_neg hm, if_neg (by omega)]
    simp only [Nat.add_assoc]
theorem acts_of {w : World} {A : Option Addr} {l : List S41} (h : Kd.C k41 w A l.length l) : ∃ bs, ∀ W : World, (∀ q, q < w.heap.size → W.heap[q]? = w.heap[q]?) → ActC W w.heap.size A l bs := by
  have hj : ∀ j, ∃ b : Option Addr × Nat, ∀ hlt : j < l.length, ∃ ad, A = some ad ∧ (∀ i u, ([.int .i64 l[j].f0, .int .i64 l[j].f1.f0, .int .i64 l[j].f1.f1, .slice b.1 l[j].f1.f2.length b.2] : List Value)[i]? = some u → w.cell? (ad.add (j * 4 + i)) = some u) ∧ l[j].f1.f2.length ≤ b.2 ∧ (Kd.int .i64).C w b.1 l[j].f1.f2.length l[j].f1.f2 := by
    intro j
    by_cases hlt : j < l.length
    · obtain ⟨_, _, h3⟩ := h
      obtain ⟨ad, ha, hr⟩ := h3 (by omega)
      obtain ⟨cs, hlen, hK, hcs⟩ := hr j _ (List.getElem?_eq_getElem hlt)
      obtain ⟨A6, c6, rfl, h6, h7⟩ := QSo.k41_open hK
      exact ⟨(A6, c6), fun _ => ⟨ad, ha, hcs, h6, h7⟩⟩
    · exact ⟨(none, 0), fun h => absurd h hlt⟩
  obtain ⟨bs, hbs⟩ := Classical.skolem.1 hj
  refine ⟨bs, fun W hW j hlt => ?_⟩
  obtain ⟨ad, ha, hc, h6, h7⟩ := hbs j hlt
  have hcell : ∀ {p : Addr} {u : Value}, w.cell? p = some u → W.cell? p = some u := fun {p u} hp => by
    have hlt := World.block_lt_of_cell? w p hp
    have := hW p.block hlt
    unfold World.cell? at hp ⊢
    rw [this]
    exact hp
  refine ⟨ad, ha, hcell (hc 0 _ rfl), ?_, ?_, ?_, h6, ?_⟩
  · rw [add_at _ _ _ (by omega)]; exact hcell (hc 1 _ rfl)
  · rw [add_at _ _ _ (by omega)]; exact hcell (hc 2 _ rfl)
  · rw [add_at _ _ _ (by omega)]; exact hcell (hc 3 _ rfl)
  · exact Kd.F_step (Kd.C_F (Kd.heap_int .i64) h7) (fun q hq _ => hW q hq)
theorem ev_len {cx : Cx} {lp : Lp} {st : Ls} {i t : Nat} {c : Cl} (w : Wf cx st i) (hi : i ≤ 1000) : (evL cx lp st t c).data.length ≤ 100000 := by
  have hd : ∀ a n : Nat, ((st.data.drop a).take n).length ≤ 100000 := fun a n => by
    have h1 := List.length_take_le n (st.data.drop a)
    have h2 : ((st.data.drop a).take n).length ≤ (st.data.drop a).length := by rw [List.length_take]; exact Nat.min_le_right _ _
    rw [List.length_drop, w.ld] at h2
    have := w.tk
    omega
  show (callL cx lp st t c).2.data.length ≤ 100000
  unfold callL
  split
  · exact Nat.zero_le _
  split
  · unfold produceL
    split
    · exact Nat.zero_le _
    split
    · exact Nat.zero_le _
    · exact Nat.zero_le _
  · unfold consumeL
    split
    · exact Nat.zero_le _
    split
    · exact Nat.zero_le _
    split
    · exact Nat.zero_le _
    · exact hd _ _
theorem rowF {W : World} {g : Nat} {l : List Int} (ok : Nat → Prop) (hok : ok g) (hb : W.heap[g]? = some (.cells (l.map (Value.int .i64)).toArray 3 (0, 0))) (hl : l.length ≤ 1000) : Kd.F (Kd.int .i64) W ok (some ⟨g, 0, none⟩) l.length l := fun W' hW => by
  have hb' := (hW g hok (blk_lt hb)).trans hb
  refine ⟨rfl, by omega, fun _ => ⟨_, rfl, fun j x hx => ?_⟩⟩
  refine ⟨[.int .i64 x], rfl, rfl, fun i u hu => ?_⟩
  obtain rfl : i = 0 := by
    have := (List.getElem?_eq_some_iff.1 hu).1
    simpa using this
  injection hu with hu
  subst hu
  rw [add_plain]
  show W'.cell? ⟨g, j * 1 + 0, none⟩ = _
  rw [Nat.mul_one, Nat.add_zero]
  refine (blk_cell hb' j).trans ?_
  simp [hx]
end Go.Proofs.YtgibmlbdkijflaaDoor.So
set_option linter.unusedVariables false
set_option linter.unusedSimpArgs false
set_option maxRecDepth 100000
namespace Go.Proofs.YtgibmlbdkijflaaDoor.So
open Go.RowKit Go.Proofs.YtgibmlbdkijflaaDoorW.PrintWords Go.Proofs.YtgibmlbdkijflaaDoorW.PrintLast Go.Proofs.YtgibmlbdkijflaaDoorW.PrintMore
open Ow
open Mo (Aside Cx U64 I64 ints least run cutW plusW New below_low tn1 meas1 w64 i1 wrapE)
open QGc (checkC)
open Graph (checkG Gv)
open Mo (Ev CxOk)
open Graph (Tabled)
theorem plainT (w : World) : Calls Tryd.prog 30 #[] w fun e w' => ∃ A C, e = .returned (.agg #[.int .i64 2, .int .i64 32, .int .i64 4, .int .i64 1, .int .u64 4294967294, .slice A 1 C]) ∧ Kd.C (Kd.slice 3 (Kd.int .i64)) w' A 1 [[]] ∧ 1 ≤ C ∧ Below w.heap.size w w' := by
  go_enter Tryd.func30, Tryd.ntmps30
  go_wp2
  have h1 := blk_alloc (heap_alloc_new w (.cells #[.int .i64 2, .int .i64 32, .int .i64 4, .int .i64 1, .int .u64 4294967294, .slice (some ⟨w.heap.size + 1, 0, none⟩) 1 1] 25)) (.cells #[.slice none 0 0] 37)
  have h2 := heap_alloc_new (w.alloc (.cells #[.int .i64 2, .int .i64 32, .int .i64 4, .int .i64 1, .int .u64 4294967294, .slice (some ⟨w.heap.size + 1, 0, none⟩) 1 1] 25)) (.cells #[.slice none 0 0] 37)
  rw [World.size_alloc] at h2
  refine bodyPost_ret (results_single rfl (.cell w.heap.size 25 #[.int .i64 2, .int .i64 32, .int .i64 4, .int .i64 1, .int .u64 4294967294, .slice (some ⟨w.heap.size + 1, 0, none⟩) 1 1] (0, 0) _ rfl h1 Tryd.underlying25 rfl (by kernel_rfl) .nil)) rfl ?_
  refine ⟨some ⟨w.heap.size + 1, 0, none⟩, 1, rfl, ⟨rfl, by decide, fun _ => ⟨_, rfl, fun j x hx => ?_⟩⟩, Nat.le_refl _, ((Below.refl _ w).alloc (Nat.le_refl _) _).alloc (by simp) _⟩
  obtain rfl : j = 0 := by
    have := (List.getElem?_eq_some_iff.1 hx).1
    simpa using this
  injection hx with hx
  subst hx
  refine ⟨[.slice none 0 0], rfl, ⟨none, 0, rfl, Nat.le_refl _, Kd.C_nil _ _⟩, fun i u hu => ?_⟩
  obtain rfl : i = 0 := by
    have := (List.getElem?_eq_some_iff.1 hu).1
    simpa using this
  injection hu with hu
  subst hu
  rw [add_plain]
  exact (blk_cell h2 0).trans rfl
def cxL : Cx := Mo.cxOf 32 2 1 4294967294 [[]]
def lpL : Lp := lpOf 32 4294967294 2
theorem smL : QGc.Sm [[]] := ⟨by decide, by decide⟩
theorem ckL : checkC 2 32 2 1 [[]] = 0 := by decide +kernel
theorem w1L : ¬ waitsL cxL (st0 cxL) 0 ⟨5, 0, [7, 8]⟩ := by decide +kernel
theorem w2L : waitsL cxL (doL cxL lpL (st0 cxL) 0 ⟨5, 0, [7, 8]⟩) 0 ⟨5, 0, [9]⟩ := by decide +kernel
theorem w3L : ¬ waitsL cxL (doL cxL lpL (st0 cxL) 0 ⟨5, 0, [7, 8]⟩) 1 ⟨6, 2, []⟩ := by decide +kernel
theorem e2L : (evL cxL lpL (doL cxL lpL (st0 cxL) 0 ⟨5, 0, [7, 8]⟩) 1 ⟨6, 2, []⟩).data = [7, 8] := by decide +kernel
structure Yes (w W : World) (r : Ending) : Prop where mk ::
  r : r = .returned (.bool true)
  b : Below w.heap.size w W
set_option maxHeartbeats 8000000 in
theorem live_ (w : World) (hT : Tabled w) : Calls Tryd.prog 7 #[] w fun r W => Yes w W r := by
  have HT := Aside.mk hT
  clear hT
  go_enter Tryd.func7, Tryd.ntmps7
  go_wp2_with fail
  refine (plainT w).mono ?_
  rintro r w1 ⟨A, C, rfl, hrd, hC, hb⟩
  have HB := Aside.mk hb
  have HR := Aside.mk (show Gv w1 A C [[]] from ⟨hrd, hC, smL⟩)
  clear hrd hC hb
  go_upto_region 2 with (fail)
  have hb1 := below_alloc (Below.refl w1.heap.size w1) (.cells #[.int .i64 2, .int .i64 32, .int .i64 4, .int .i64 1, .int .u64 4294967294, .slice A 1 C] 25)
  have HX := Aside.mk (heap_alloc_new w1 (.cells #[.int .i64 2, .int .i64 32, .int .i64 4, .int .i64 1, .int .u64 4294967294, .slice A 1 C] 25))
  have HWW := Aside.mk HB.out.size
  replace HB := Aside.mk (HB.out.trans (hb1.mono HB.out.size))
  have HB1 := Aside.mk hb1
  clear hb1
  generalize w1.alloc (.cells #[.int .i64 2, .int .i64 32, .int .i64 4, .int .i64 1, .int .u64 4294967294, .slice A 1 C] 25) = w2 at *
  obtain ⟨x0, x1, x2, x3, x4, x5⟩ := Mo.cell6 HX.out
  have f2 := blk_frozen HX.out 2
  go_upto_region 3 with (fail)
  replace HB := Aside.mk (HB.out.setCell (p := ⟨w1.heap.size, 2, none⟩) HWW.out (.int .i64 2))
  replace HR := Aside.mk (HR.out.below (HB1.out.setCell (p := ⟨w1.heap.size, 2, none⟩) (Nat.le_refl _) (.int .i64 2)))
  clear HB1
  replace HX := Aside.mk (blk_put (cs' := #[.int .i64 2, .int .i64 32, .int .i64 2, .int .i64 1, .int .u64 4294967294, .slice A 1 C]) HX.out 2 (.int .i64 2) rfl)
  clear x0 x1 x2 x3 x4 x5 f2
  generalize w2.setCell ⟨w1.heap.size, 2, none⟩ (.int .i64 2) = w3 at *
  obtain ⟨x0, x1, x2, x3, x4, x5⟩ := Mo.cell6 HX.out
  have HN := Aside.mk (pnew w w3 HB.out 2 32 2 1 4294967294 A C [[]] HR.out ckL ⟨by decide, by decide⟩ (HT.out.below HB.out) cxL (Mo.cxOf_ok smL ckL))
  go_wp2_with fail
  refine HN.out.mono ?_
  rintro r w4 ⟨⟨B, k, rfl, hLm, hown, hb⟩⟩
  have HP1 := Aside.mk (show ¬ waitsL { cxL with lim := B } (st0 cxL) 0 ⟨5, 0, [7, 8]⟩ from w1L)
  have HP2 := Aside.mk (show waitsL { cxL with lim := B } (doL { cxL with lim := B } lpL (st0 cxL) 0 ⟨5, 0, [7, 8]⟩) 0 ⟨5, 0, [9]⟩ from w2L)
  have HP3 := Aside.mk (show ¬ waitsL { cxL with lim := B } (doL { cxL with lim := B } lpL (st0 cxL) 0 ⟨5, 0, [7, 8]⟩) 1 ⟨6, 2, []⟩ from w3L)
  have HP4 := Aside.mk (show (evL { cxL with lim := B } lpL (doL { cxL with lim := B } lpL (st0 cxL) 0 ⟨5, 0, [7, 8]⟩) 1 ⟨6, 2, []⟩).data = [7, 8] from e2L)
  have HPU := Aside.mk (show ({ cxL with lim := B } : Cx).prod + ({ cxL with lim := B } : Cx).up.length = 2 from rfl)
  rw [show lpOf 32 4294967294 2 = lpL from rfl] at hLm
  clear hown HN
  generalize { cxL with lim := B } = cxB at *
  generalize st0 cxL = sA at *
  generalize lpL = lp at *
  have HLM := Aside.mk hLm
  replace HB := Aside.mk (HB.out.trans (hb.mono HB.out.size))
  clear hLm hb x0 x1 x2 x3 x4 x5 HR HX
  -- Send 7, 8
  have hbd := below_alloc (Below.refl w4.heap.size w4) (.cells #[.int .i64 7, .int .i64 8] 3)
  have hL5 := HLM.out.below hbd
  have HD1 := Aside.mk (l_do hL5 (below_low hbd HB.out) (by omega) 0 (by rw [HPU.out]; omega) ⟨5, 0, [7, 8]⟩ HP1.out (some ⟨w4.heap.size, 0, none⟩) 2 (rowF _ (fun ho => absurd (HLM.out.x.lt ho) (Nat.lt_irrefl _)) (heap_alloc_new w4 (.cells #[.int .i64 7, .int .i64 8] 3)) (by decide)) (Nat.le_refl _))
  rw [show ((0 : Nat) : Int) = 0 from rfl] at HD1
  clear hbd hL5
  go_wp2_with fail
  refine HD1.out.mono ?_
  rintro r w5 ⟨⟨A1, C1, rfl, _, _, ⟨k5, h5, t5, _, _⟩⟩⟩
  have HL5 := Aside.mk h5
  have HB5 := Aside.mk t5.b
  have HE1 := Aside.mk (show (evL cxB lp sA 0 ⟨5, 0, [7, 8]⟩).op = 5 from rfl)
  clear h5 t5 HD1 HLM HB
  generalize evL cxB lp sA 0 ⟨5, 0, [7, 8]⟩ = e1 at *
  generalize doL cxB lp sA 0 ⟨5, 0, [7, 8]⟩ = sB at *
  unfold evV
  go_upto_region 5 with (fail)
  have hbe := below_alloc (Below.refl w5.heap.size w5) (.cells #[.int .i64 e1.kind, .int .i64 e1.thread, .int .i64 e1.op, .int .i64 e1.n, .int .u64 e1.pos, .int .i64 e1.code, .slice A1 e1.data.length C1] 44)
  have HX1 := Aside.mk (heap_alloc_new w5 (.cells #[.int .i64 e1.kind, .int .i64 e1.thread, .int .i64 e1.op, .int .i64 e1.n, .int .u64 e1.pos, .int .i64 e1.code, .slice A1 e1.data.length C1] 44))
  replace HL5 := Aside.mk (HL5.out.below hbe)
  replace HB5 := Aside.mk (below_low hbe HB5.out)
  clear hbe
  generalize w5.heap.size = ga at *
  generalize w5.alloc (.cells #[.int .i64 e1.kind, .int .i64 e1.thread, .int .i64 e1.op, .int .i64 e1.n, .int .u64 e1.pos, .int .i64 e1.code, .slice A1 e1.data.length C1] 44) = w6 at *
  rw [HE1.out] at HX1
  -- Send 9 waits
  have hbd := below_alloc (Below.refl w6.heap.size w6) (.cells #[.int .i64 9] 3)
  have HD2 := Aside.mk (l_waits (HL5.out.below hbd) 0 (by rw [HPU.out]; omega) ⟨5, 0, [9]⟩ (some ⟨w6.heap.size, 0, none⟩) 1)
  rw [decide_eq_true HP2.out] at HD2
  rw [show ((0 : Nat) : Int) = 0 from rfl] at HD2
  replace HL5 := Aside.mk (HL5.out.below hbd)
  replace HB5 := Aside.mk (below_low hbd HB5.out)
  replace HX1 := Aside.mk (blk_below HX1.out hbd)
  clear hbd
  go_wp2_with fail
  refine HD2.out.mono ?_
  rintro r w7 ⟨rfl, hb⟩
  replace HL5 := Aside.mk (HL5.out.below hb)
  replace HB5 := Aside.mk (below_low hb HB5.out)
  replace HX1 := Aside.mk (blk_below HX1.out hb)
  clear hb HD2
  -- Receive 2
  have HD3 := Aside.mk (l_do HL5.out HB5.out (by omega) 1 (by rw [HPU.out]; omega) ⟨6, 2, []⟩ HP3.out none 0 (Kd.F_nil _ _ _) (Nat.le_refl _))
  rw [show ((1 : Nat) : Int) = 1 from rfl] at HD3
  go_wp2_with fail
  refine HD3.out.mono ?_
  rintro r w8 ⟨⟨A2, C2, rfl, _, hfd, ⟨k8, h8, t8, _, _⟩⟩⟩
  have HX8 := Aside.mk (TK.box t8 HL5.out HX1.out (by decide))
  have HB8 := Aside.mk t8.b
  have HF8 := Aside.mk hfd
  clear h8 t8 hfd HL5 HX1 HD3 HB5
  generalize evL cxB lp sB 1 ⟨6, 2, []⟩ = e2 at *
  unfold evV
  go_upto_region 7 with (fail)
  have hbe := below_alloc (Below.refl w8.heap.size w8) (.cells #[.int .i64 e2.kind, .int .i64 e2.thread, .int .i64 e2.op, .int .i64 e2.n, .int .u64 e2.pos, .int .i64 e2.code, .slice A2 e2.data.length C2] 44)
  have HX2 := Aside.mk (heap_alloc_new w8 (.cells #[.int .i64 e2.kind, .int .i64 e2.thread, .int .i64 e2.op, .int .i64 e2.n, .int .u64 e2.pos, .int .i64 e2.code, .slice A2 e2.data.length C2] 44))
  replace HX8 := Aside.mk (blk_below HX8.out hbe)
  replace HB8 := Aside.mk (below_low hbe HB8.out)
  replace HF8 := Aside.mk (Kd.F_below HF8.out hbe)
  clear hbe
  generalize w8.heap.size = gb at *
  generalize w8.alloc (.cells #[.int .i64 e2.kind, .int .i64 e2.thread, .int .i64 e2.op, .int .i64 e2.n, .int .u64 e2.pos, .int .i64 e2.code, .slice A2 e2.data.length C2] 44) = w9 at *
  rw [HP4.out] at HF8 HX2
  rw [HP4.out]
  obtain ⟨a0, a1, a2, a3, a4, a5, a6⟩ := Mo.cell7 HX8.out
  obtain ⟨b0, b1, b2, b3, b4, b5, b6⟩ := Mo.cell7 HX2.out
  obtain ⟨ad, eA, hx⟩ := Mo.num_at (Kd.F_now HF8.out) 1 (by decide)
  subst eA
  rw [show ([7, 8] : List Int)[1] = 8 from rfl] at hx
  have l2 : ([7, 8] : List Int).length = 2 := rfl
  rw [l2] at b6
  have hx2 := hx
  unfold Addr.add at hx2
  rw [if_neg (by decide)] at hx2
  go_wp2
  go_ret
  exact ⟨rfl, HB8.out⟩
end Go.Proofs.YtgibmlbdkijflaaDoor.So
