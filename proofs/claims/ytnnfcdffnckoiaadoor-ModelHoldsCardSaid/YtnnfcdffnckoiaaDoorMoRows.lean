/- The program's model: what only reads it. -/
import Derived.Test.YtnnfcdffnckoiaaDoorMoDoc
import Derived.Deep.RegionLawGrows
import Derived.Deep.RegionWith
import Derived.Test.YtnnfcdffnckoiaaDoorWShare
import Derived.Test.YtnnfcdffnckoiaaDoorWZeros
set_option linter.unusedVariables false
set_option linter.unusedSimpArgs false
set_option maxRecDepth 100000
namespace Go.Proofs.YtnnfcdffnckoiaaDoor.Mo
open Go.RowKit Go.Proofs.YtnnfcdffnckoiaaDoorW.PrintWords Go.Proofs.YtnnfcdffnckoiaaDoorW.PrintLast Go.Proofs.YtnnfcdffnckoiaaDoorW.PrintMore
attribute [local go_sem] max2_int min2_int max_two min_two
/-- What a model's box has beside the numbers that turn: the configuration, and where its rows lie. -/
structure Mk where
  vr : Int
  wd : Int
  cp : Int
  pr : Int
  sa : Int
  s0 : Int
  U : Option Addr
  un : Nat
  uc : Nat
  E : Option Addr
  en : Nat
  ec : Nat
  H : Option Addr
  hn : Nat
  hc : Nat
  P : Option Addr
  pn : Nat
  pc : Nat
  D : Option Addr
  dn : Nat
  dc : Nat
  G : Option Addr
  gn : Nat
  gc : Nat
  S : Option Addr
  sn : Nat
  sc : Nat
theorem cell16 {w : World} {g : Nat} {c0 c1 c2 c3 c4 c5 c6 c7 c8 c9 c10 c11 c12 c13 c14 c15 : Value} {t : TypeId} (h : w.heap[g]? = some (.cells #[c0, c1, c2, c3, c4, c5, c6, c7, c8, c9, c10, c11, c12, c13, c14, c15] t (0, 0))) :
    w.cell? ⟨g, 0, none⟩ = some c0 ∧ w.cell? ⟨g, 1, none⟩ = some c1 ∧ w.cell? ⟨g, 2, none⟩ = some c2 ∧ w.cell? ⟨g, 3, none⟩ = some c3 ∧ w.cell? ⟨g, 4, none⟩ = some c4 ∧ w.cell? ⟨g, 5, none⟩ = some c5 ∧ w.cell? ⟨g, 6, none⟩ = some c6 ∧ w.cell? ⟨g, 7, none⟩ = some c7 ∧ w.cell? ⟨g, 8, none⟩ = some c8 ∧ w.cell? ⟨g, 9, none⟩ = some c9 ∧ w.cell? ⟨g, 10, none⟩ = some c10 ∧ w.cell? ⟨g, 11, none⟩ = some c11 ∧ w.cell? ⟨g, 12, none⟩ = some c12 ∧ w.cell? ⟨g, 13, none⟩ = some c13 ∧ w.cell? ⟨g, 14, none⟩ = some c14 ∧ w.cell? ⟨g, 15, none⟩ = some c15 := by
  refine ⟨?_, ?_, ?_, ?_, ?_, ?_, ?_, ?_, ?_, ?_, ?_, ?_, ?_, ?_, ?_, ?_⟩ <;> simp [World.cell?, h]
/-- Bools, and what producers hold, in a row, read. -/
def BoolsC (w : World) (A : Option Addr) (l : List Bool) : Prop := ∀ j (h : j < l.length), ∃ ad, A = some ad ∧ w.cell? (ad.add j) = some (.bool l[j])
def HeldC (w : World) (A : Option Addr) (l : List Hd) : Prop := ∀ j (h : j < l.length), ∃ ad, A = some ad ∧ w.cell? (ad.add (j * 4)) = some (.int .i64 l[j].f) ∧ w.cell? ⟨(ad.add (j * 4)).block, (ad.add (j * 4)).off + 1, none⟩ = some (.int .i64 l[j].n) ∧ w.cell? ⟨(ad.add (j * 4)).block, (ad.add (j * 4)).off + 2, none⟩ = some (.int .i64 l[j].p) ∧ w.cell? ⟨(ad.add (j * 4)).block, (ad.add (j * 4)).off + 3, none⟩ = some (.bool l[j].g)
/-- A model, read. -/
structure MR (w : World) (B : Nat) (k : Mk) (cx : Cx) (st : St) : Prop where
  blk : w.heap[B]? = some (.cells #[.int .i64 k.vr, .int .i64 k.wd, .int .i64 k.cp, .int .i64 k.pr, .int .u64 k.sa, .slice k.U k.un k.uc, .int .u64 k.s0, .slice k.E k.en k.ec, .int .i64 st.taken, .int .i64 st.granted, .int .i64 st.pre, .slice k.H k.hn k.hc, .slice k.P k.pn k.pc, .slice k.D k.dn k.dc, .slice k.G k.gn k.gc, .slice k.S k.sn k.sc] 100 (0, 0))
  un : k.un = cx.up.length
  uc : k.un ≤ k.uc
  u : Kd.C (Kd.slice 3 (Kd.int .i64)) w k.U k.un (cx.up.map ints)
  en : k.en = cx.ends.length
  ec : k.en ≤ k.ec
  e : (Kd.int .i64).C w k.E (ints cx.ends).length (ints cx.ends)
  hn : k.hn = cx.prod
  h : HeldC w k.H st.held
  pn : k.pn = st.put.length
  p : BoolsC w k.P st.put
  dn : k.dn = st.data.length
  d : (Kd.int .i64).C w k.D st.data.length st.data
  gn : k.gn = cx.up.length
  g : (Kd.int .i64).C w k.G st.gate.length st.gate
  sn : k.sn = cx.up.length
  s : (Kd.int .i64).C w k.S st.saw.length st.saw
  wf : Wf cx st
  cp : k.cp = cx.cap
  pr : k.pr = cx.prod
  s0 : k.s0 = cutW k.wd k.sa
  us : U64 k.sa
  ct : ∀ t p, cx.cnt t p = cntW k.wd k.sa t p
  c64 : 1 ≤ cx.cap ∧ cx.cap ≤ 64
  p4 : cx.prod ≤ 4
  u6 : cx.up.length ≤ 6
  ub : ∀ l ∈ cx.up, ∀ c ∈ l, c < cx.up.length
  ul : ∀ l ∈ cx.up, l.length ≤ 20
  eb : ∀ c ∈ cx.ends, c < cx.up.length
  en0 : cx.ends ≠ []
  el : cx.ends.length ≤ 6
  tb : st.taken ≤ 100000
  gb : ∀ k, 0 ≤ st.gate.getD k 0 ∧ st.gate.getD k 0 ≤ 100000
  rb : 0 ≤ st.granted ∧ st.granted ≤ 100000
theorem MR.below {w w' : World} {B : Nat} {k : Mk} {cx : Cx} {st : St} (h : MR w B k cx st) (b : Below w.heap.size w w') : MR w' B k cx st := by
  have go : ∀ {p : Addr} {v : Value}, w.cell? p = some v → w'.cell? p = some v := fun hp => (b.cell (World.block_lt_of_cell? _ _ hp)).trans hp
  exact { h with
    blk := blk_below h.blk b
    u := Kd.C_below h.u b
    e := Kd.C_below h.e b
    h := fun j hj => by
      obtain ⟨ad, e, h0, h1, h2, h3⟩ := h.h j hj
      exact ⟨ad, e, go h0, go h1, go h2, go h3⟩
    p := fun j hj => by
      obtain ⟨ad, e, h0⟩ := h.p j hj
      exact ⟨ad, e, go h0⟩
    d := Kd.C_below h.d b
    g := Kd.C_below h.g b
    s := Kd.C_below h.s b }
theorem ptaken (w : World) (B : Nat) (k : Mk) (cx : Cx) (st : St) (h : MR w B k cx st) :
    Calls Tryd.prog 26 #[.pointer (some ⟨B, 0, none⟩)] w fun e w' => e = .returned (.int .i64 st.taken) ∧ Below w.heap.size w w' := by
  obtain ⟨c0, c1, c2, c3, c4, c5, c6, c7, c8, c9, c10, c11, c12, c13, c14, c15⟩ := cell16 h.blk
  clear h
  go_enter Tryd.func26, Tryd.ntmps26
  go_wp2
  go_ret
  exact ⟨rfl, Below.refl _ _⟩
theorem pprefix (w : World) (B : Nat) (k : Mk) (cx : Cx) (st : St) (h : MR w B k cx st) :
    Calls Tryd.prog 27 #[.pointer (some ⟨B, 0, none⟩)] w fun e w' => e = .returned (.int .i64 st.pre) ∧ Below w.heap.size w w' := by
  obtain ⟨c0, c1, c2, c3, c4, c5, c6, c7, c8, c9, c10, c11, c12, c13, c14, c15⟩ := cell16 h.blk
  clear h
  go_enter Tryd.func27, Tryd.ntmps27
  go_wp2
  go_ret
  exact ⟨rfl, Below.refl _ _⟩
def leastP (gate : List Int) (l : List Nat) (i : Nat) : Int := (l.take i).foldl (fun n c => min n (gate.getD c 0)) (gate.getD (l.headD 0) 0)
theorem leastP_succ (gate : List Int) (l : List Nat) (i : Nat) (h : i < l.length) : leastP gate l (i + 1) = min (leastP gate l i) (gate.getD l[i] 0) := by
  unfold leastP
  rw [List.take_succ_eq_append_getElem h, List.foldl_append]
  rfl
theorem leastP_all (gate : List Int) (l : List Nat) : leastP gate l l.length = least gate l := by
  unfold leastP least
  rw [List.take_length]
theorem gate_at {w : World} {B : Nat} {k : Mk} {cx : Cx} {st : St} (h : MR w B k cx st) (j : Nat) (hj : j < cx.up.length) : ∃ ad, k.G = some ad ∧ w.cell? (ad.add j) = some (.int .i64 (st.gate.getD j 0)) := by
  have hl : j < st.gate.length := by rw [h.wf.lg]; exact hj
  obtain ⟨ad, e, hx⟩ := num_at h.g j hl
  rw [List.getD_eq_getElem?_getD, List.getElem?_eq_getElem hl]
  exact ⟨ad, e, hx⟩
theorem saw_at {w : World} {B : Nat} {k : Mk} {cx : Cx} {st : St} (h : MR w B k cx st) (j : Nat) (hj : j < cx.up.length) : ∃ ad, k.S = some ad ∧ w.cell? (ad.add j) = some (.int .i64 (st.saw.getD j 0)) := by
  have hl : j < st.saw.length := by rw [h.wf.ls]; exact hj
  obtain ⟨ad, e, hx⟩ := num_at h.s j hl
  rw [List.getD_eq_getElem?_getD, List.getElem?_eq_getElem hl]
  exact ⟨ad, e, hx⟩
theorem nat_at {w : World} {A : Option Addr} {l : List Nat} (h : (Kd.int .i64).C w A (ints l).length (ints l)) (j : Nat) (hj : j < l.length) : ∃ ad, A = some ad ∧ w.cell? (ad.add j) = some (.int .i64 (l[j] : Int)) := by
  obtain ⟨ad, e, hx⟩ := num_at h j (by rw [ints_len]; exact hj)
  refine ⟨ad, e, ?_⟩
  rw [hx]
  simp [ints]
set_option maxHeartbeats 4000000 in
theorem pleast_ (w : World) (B : Nat) (k : Mk) (cx : Cx) (st : St) (h : MR w B k cx st) (A : Option Addr) (C : Nat) (l : List Nat) (hl : (Kd.int .i64).C w A (ints l).length (ints l)) (hC : l.length ≤ C) (hne : l ≠ []) (hn : l.length ≤ 1000) (hb : ∀ x ∈ l, x < cx.up.length) :
    Calls Tryd.prog 61 #[.pointer (some ⟨B, 0, none⟩), .slice A l.length C] w fun e w' => e = .returned (.int .i64 (least st.gate l)) ∧ Below w.heap.size w w' := by
  have HM := Aside.mk h
  have HL := Aside.mk hl
  have HN := Aside.mk hn
  have HB := Aside.mk hb
  have hpos : 0 < l.length := List.length_pos_iff.2 hne
  have HP := Aside.mk hpos
  obtain ⟨ad, rfl, hx⟩ := nat_at hl 0 hpos
  rw [show ad.add 0 = ad by simp [Addr.add]] at hx
  have hc0 : l[0] < cx.up.length := hb _ (List.getElem_mem hpos)
  obtain ⟨gd, eg, hy⟩ := gate_at h l[0] hc0
  obtain ⟨c0, c1, c2, c3, c4, c5, c6, c7, c8, c9, c10, c11, c12, c13, c14, c15⟩ := cell16 h.blk
  rw [eg] at c14
  have hgn : l[0] < k.gn := by rw [h.gn]; exact hc0
  have g1 : decide ((l[0] : Int) < (k.gn : Int)) = true := decide_eq_true (by omega)
  have g2 : (l[0] : Int) < (k.gn : Int) := by omega
  have g3 : decide (l[0] < k.gn) = true := decide_eq_true hgn
  have HL0 := Aside.mk (show leastP st.gate l 0 = st.gate.getD l[0] 0 by
    cases l with
    | nil => exact absurd rfl hne
    | cons x r => rfl)
  have HEG := Aside.mk eg
  have HGN := Aside.mk h.gn
  generalize l[0] = x0 at *
  generalize st.gate.getD x0 0 = gx0 at *
  clear h hl hC hne hn hb eg
  go_enter Tryd.func61, Tryd.ntmps61
  go_wp2_with fail
  go_region
  rw [← HL0.out]
  clear hx hy g1 g2 g3 hc0 hgn hpos
  go_wp2_with fail
  go_loopw [5, 19] (fun n x wr => ∃ i : Nat, i ≤ l.length ∧ n = .int .i64 (leastP st.gate l i) ∧ x = .int .i64 i ∧ wr = w.drew) (fun _ x _ => l.length - (intOf x).toNat)
  case atStart => exact ⟨0, Nat.zero_le _, rfl, rfl, rfl⟩
  case round =>
    obtain ⟨i, hi, rfl, rfl, rfl⟩ := hrel
    by_cases hlt : i < l.length
    · have t1 : decide ((i : Int) < (l.length : Int)) = true := decide_eq_true (by omega)
      have t2 : decide (i < l.length) = true := decide_eq_true hlt
      have t3 : (i : Int) < (l.length : Int) := by omega
      have HLT := Aside.mk hlt
      have ei := i1 (show i < 4611686018427387904 by have := HN.out; omega)
      obtain ⟨ad2, ead, hx⟩ := nat_at HL.out i hlt
      injection ead with ead
      subst ead
      have hc0 : l[i] < cx.up.length := HB.out _ (List.getElem_mem hlt)
      obtain ⟨gd2, eg2, hy⟩ := gate_at HM.out l[i] hc0
      rw [HEG.out] at eg2
      injection eg2 with eg2
      subst eg2
      have g1 : decide ((l[i] : Int) < (k.gn : Int)) = true := decide_eq_true (by rw [HGN.out]; omega)
      have g2 : (l[i] : Int) < (k.gn : Int) := by rw [HGN.out]; omega
      have g3 : decide (l[i] < k.gn) = true := decide_eq_true (by rw [HGN.out]; omega)
      have HTK := Aside.mk (leastP_succ st.gate l i hlt)
      generalize l[i] = x at *
      generalize leastP st.gate l i = tk at *
      generalize st.gate.getD x 0 = gx at *
      clear hlt hi hc0
      go_wp2_with fail
      go_roundw
      case rel => exact ⟨i + 1, HLT.out, by rw [HTK.out]; exact congrArg (Value.int .i64) (by split <;> omega), by first | rfl | simp, by first | rfl | trivial⟩
      case measure =>
        simp only [intOf, tn1, Int.toNat_natCast]
        exact meas1 HLT.out
    · obtain rfl : i = l.length := by omega
      have t1 : decide ((l.length : Int) < (l.length : Int)) = false := decide_eq_false (by omega)
      have t2 : decide (l.length < l.length) = false := decide_eq_false (by omega)
      rw [leastP_all]
      clear hi hlt
      go_wp2
      go_ret
      exact ⟨rfl, below_drew1 (Below.refl _ _)⟩
set_option maxHeartbeats 4000000 in
theorem pleast (w : World) (B : Nat) (k : Mk) (cx : Cx) (st : St) (h : MR w B k cx st) :
    Calls Tryd.prog 28 #[.pointer (some ⟨B, 0, none⟩)] w fun e w' => e = .returned (.int .i64 (least st.gate cx.ends)) ∧ Below w.heap.size w w' := by
  have HP := Aside.mk (pleast_ w B k cx st h k.E k.ec cx.ends h.e (by rw [← h.en]; exact h.ec) h.en0 (by have := h.el; omega) h.eb)
  obtain ⟨c0, c1, c2, c3, c4, c5, c6, c7, c8, c9, c10, c11, c12, c13, c14, c15⟩ := cell16 h.blk
  rw [h.en] at c7
  clear h
  go_enter Tryd.func28, Tryd.ntmps28
  go_wp2_with fail
  refine HP.out.mono ?_
  rintro r w3 ⟨rfl, hb⟩
  go_wp2
  go_ret
  exact ⟨rfl, hb⟩
theorem pthere (w : World) (B : Nat) (k : Mk) (cx : Cx) (st : St) (h : MR w B k cx st) (j : Int) :
    Calls Tryd.prog 67 #[.pointer (some ⟨B, 0, none⟩), .int .i64 j] w fun e w' => e = .returned (.bool (decide (0 ≤ j) && decide (j < (cx.up.length : Int)))) ∧ Below w.heap.size w w' := by
  obtain ⟨c0, c1, c2, c3, c4, c5, c6, c7, c8, c9, c10, c11, c12, c13, c14, c15⟩ := cell16 h.blk
  rw [h.gn] at c14
  clear h
  by_cases h0 : 0 ≤ j
  · have t1 : decide (0 ≤ j) = true := decide_eq_true h0
    rw [t1, Bool.true_and]
    clear h0
    go_enter Tryd.func67, Tryd.ntmps67
    go_wp2
    go_ret
    exact ⟨rfl, Below.refl _ _⟩
  · have t1 : decide (0 ≤ j) = false := decide_eq_false h0
    rw [t1, Bool.false_and]
    clear h0
    go_enter Tryd.func67, Tryd.ntmps67
    go_wp2
    go_ret
    exact ⟨rfl, Below.refl _ _⟩
theorem pgate (w : World) (B : Nat) (k : Mk) (cx : Cx) (st : St) (h : MR w B k cx st) (j : Nat) (hj : j < cx.up.length) :
    Calls Tryd.prog 31 #[.pointer (some ⟨B, 0, none⟩), .int .i64 (j : Int)] w fun e w' => e = .returned (.int .i64 (st.gate.getD j 0)) ∧ Below w.heap.size w w' := by
  have HT := Aside.mk (pthere w B k cx st h (j : Int))
  rw [decide_eq_true (show (0 : Int) ≤ (j : Int) by omega), decide_eq_true (show (j : Int) < (cx.up.length : Int) by omega)] at HT
  have HM := Aside.mk h
  have HJ := Aside.mk hj
  have g1 : decide ((j : Int) < (k.gn : Int)) = true := decide_eq_true (by rw [h.gn]; omega)
  have g2 : (j : Int) < (k.gn : Int) := by rw [h.gn]; omega
  have g3 : decide (j < k.gn) = true := decide_eq_true (by rw [h.gn]; omega)
  clear h hj
  go_enter Tryd.func31, Tryd.ntmps31
  go_wp2_with fail
  refine HT.out.mono ?_
  rintro r w3 ⟨rfl, hb⟩
  have HB := Aside.mk hb
  obtain ⟨gd, eg, hy⟩ := gate_at (HM.out.below hb) j HJ.out
  obtain ⟨c0, c1, c2, c3, c4, c5, c6, c7, c8, c9, c10, c11, c12, c13, c14, c15⟩ := cell16 (HM.out.below hb).blk
  rw [eg] at c14
  clear hb eg
  go_wp2
  go_ret
  exact ⟨rfl, HB.out⟩
theorem psaw (w : World) (B : Nat) (k : Mk) (cx : Cx) (st : St) (h : MR w B k cx st) (j : Nat) (hj : j < cx.up.length) :
    Calls Tryd.prog 32 #[.pointer (some ⟨B, 0, none⟩), .int .i64 (j : Int)] w fun e w' => e = .returned (.int .i64 (st.saw.getD j 0)) ∧ Below w.heap.size w w' := by
  have HT := Aside.mk (pthere w B k cx st h (j : Int))
  rw [decide_eq_true (show (0 : Int) ≤ (j : Int) by omega), decide_eq_true (show (j : Int) < (cx.up.length : Int) by omega)] at HT
  have HM := Aside.mk h
  have HJ := Aside.mk hj
  have g1 : decide ((j : Int) < (k.sn : Int)) = true := decide_eq_true (by rw [h.sn]; omega)
  have g2 : (j : Int) < (k.sn : Int) := by rw [h.sn]; omega
  have g3 : decide (j < k.sn) = true := decide_eq_true (by rw [h.sn]; omega)
  clear h hj
  go_enter Tryd.func32, Tryd.ntmps32
  go_wp2_with fail
  refine HT.out.mono ?_
  rintro r w3 ⟨rfl, hb⟩
  have HB := Aside.mk hb
  obtain ⟨gd, eg, hy⟩ := saw_at (HM.out.below hb) j HJ.out
  obtain ⟨c0, c1, c2, c3, c4, c5, c6, c7, c8, c9, c10, c11, c12, c13, c14, c15⟩ := cell16 (HM.out.below hb).blk
  rw [eg] at c15
  clear hb eg
  go_wp2
  go_ret
  exact ⟨rfl, HB.out⟩
theorem prow_c {w : World} {B : Nat} {k : Mk} {cx : Cx} {st : St} (h : MR w B k cx st) (j : Nat) (hj : j < cx.up.length) : ∃ ad A0 c0, k.U = some ad ∧ w.cell? (ad.add j) = some (.slice A0 (cx.up.getD j []).length c0) ∧ (cx.up.getD j []).length ≤ c0 ∧ (Kd.int .i64).C w A0 (ints (cx.up.getD j [])).length (ints (cx.up.getD j [])) := by
  obtain ⟨_, _, h3⟩ := h.u
  have hu := h.un
  obtain ⟨ad, e, hr⟩ := h3 (by omega)
  obtain ⟨cs, g1, ⟨A0, c0, g2, g4, g5⟩, g3⟩ := hr j _ (List.getElem?_eq_getElem (show j < (cx.up.map ints).length by rw [List.length_map]; exact hj))
  subst g2
  have h5 := g3 0 _ rfl
  have hz : (Kd.slice 3 (Kd.int .i64)).sz = 1 := rfl
  rw [hz, Nat.mul_one, Nat.add_zero] at h5
  have eu : (cx.up.map ints)[j]'(by rw [List.length_map]; exact hj) = ints (cx.up.getD j []) := by simp [hj]
  rw [eu] at h5 g4 g5
  rw [ints_len] at h5 g4
  exact ⟨ad, A0, c0, e, h5, g4, g5⟩
set_option maxHeartbeats 4000000 in
theorem plimit_ (w : World) (B : Nat) (k : Mk) (cx : Cx) (st : St) (h : MR w B k cx st) (j : Nat) (hj : j < cx.up.length) :
    Calls Tryd.prog 68 #[.pointer (some ⟨B, 0, none⟩), .int .i64 (j : Int)] w fun e w' => e = .returned (.int .i64 (limit cx st j)) ∧ Below w.heap.size w w' := by
  obtain ⟨ad, A0, c0', eU, hx, hc0, hrow⟩ := prow_c h j hj
  have HUB := Aside.mk (show ∀ x ∈ cx.up.getD j [], x < cx.up.length from fun x hx => by
    rw [List.getD_eq_getElem?_getD, List.getElem?_eq_getElem hj] at hx
    exact h.ub _ (List.getElem_mem hj) x hx)
  have HSM := Aside.mk (show (cx.up.getD j []).length ≤ 20 by
    rw [List.getD_eq_getElem?_getD, List.getElem?_eq_getElem hj]
    exact h.ul _ (List.getElem_mem hj))
  have HLIM := Aside.mk (show limit cx st j = if cx.up.getD j [] = [] then st.pre else least st.gate (cx.up.getD j []) from rfl)
  have HPL := Aside.mk (fun (hne : cx.up.getD j [] ≠ []) => pleast_ w B k cx st h A0 c0' (cx.up.getD j []) hrow hc0 hne (by have := HSM.out; omega) HUB.out)
  obtain ⟨c0, c1, c2, c3, c4, c5, c6, c7, c8, c9, c10, c11, c12, c13, c14, c15⟩ := cell16 h.blk
  rw [eU] at c5
  have g1 : decide ((j : Int) < (k.un : Int)) = true := decide_eq_true (by rw [h.un]; omega)
  have g2 : (j : Int) < (k.un : Int) := by rw [h.un]; omega
  have g3 : decide (j < k.un) = true := decide_eq_true (by rw [h.un]; omega)
  generalize cx.up.getD j [] = row at *
  clear h hj hc0 hrow eU
  go_enter Tryd.func68, Tryd.ntmps68
  by_cases hr : row = []
  · have r1 : ((row.length : Int) == 0) = true := by rw [hr]; rfl
    rw [if_pos hr] at HLIM
    clear hr HPL
    go_wp2
    go_ret
    exact ⟨by rw [HLIM.out]; rfl, Below.refl _ _⟩
  · have r1 : ((row.length : Int) == 0) = false := by
      rw [beq_eq_false_iff_ne]
      intro e
      exact hr (List.eq_nil_of_length_eq_zero (by omega))
    rw [if_neg hr] at HLIM
    have HP := Aside.mk (HPL.out hr)
    clear hr HPL
    go_wp2_with fail
    refine HP.out.mono ?_
    rintro r w3 ⟨rfl, hb⟩
    go_wp2
    go_ret
    exact ⟨by rw [HLIM.out]; rfl, hb⟩
theorem plimit (w : World) (B : Nat) (k : Mk) (cx : Cx) (st : St) (h : MR w B k cx st) (j : Nat) (hj : j < cx.up.length) :
    Calls Tryd.prog 33 #[.pointer (some ⟨B, 0, none⟩), .int .i64 (j : Int)] w fun e w' => e = .returned (.int .i64 (limit cx st j)) ∧ Below w.heap.size w w' := by
  have HT := Aside.mk (pthere w B k cx st h (j : Int))
  rw [decide_eq_true (show (0 : Int) ≤ (j : Int) by omega), decide_eq_true (show (j : Int) < (cx.up.length : Int) by omega)] at HT
  have HM := Aside.mk h
  have HJ := Aside.mk hj
  clear h hj
  go_enter Tryd.func33, Tryd.ntmps33
  go_wp2_with fail
  refine HT.out.mono ?_
  rintro r w3 ⟨rfl, hb⟩
  have HB := Aside.mk hb
  clear hb
  go_wp2_with fail
  refine (plimit_ _ B k cx st (HM.out.below HB.out) j HJ.out).mono ?_
  rintro r w4 ⟨rfl, hb⟩
  go_wp2
  go_ret
  exact ⟨rfl, HB.out.trans (hb.mono HB.out.size)⟩
theorem pproducer (w : World) (B : Nat) (k : Mk) (cx : Cx) (st : St) (h : MR w B k cx st) (t : Int) :
    Calls Tryd.prog 69 #[.pointer (some ⟨B, 0, none⟩), .int .i64 t] w fun e w' => e = .returned (.bool (decide (0 ≤ t) && decide (t < (cx.prod : Int)))) ∧ Below w.heap.size w w' := by
  obtain ⟨c0, c1, c2, c3, c4, c5, c6, c7, c8, c9, c10, c11, c12, c13, c14, c15⟩ := cell16 h.blk
  rw [h.pr] at c3
  clear h
  by_cases h0 : 0 ≤ t
  · have t1 : decide (0 ≤ t) = true := decide_eq_true h0
    rw [t1, Bool.true_and]
    clear h0
    go_enter Tryd.func69, Tryd.ntmps69
    go_wp2
    go_ret
    exact ⟨rfl, Below.refl _ _⟩
  · have t1 : decide (0 ≤ t) = false := decide_eq_false h0
    rw [t1, Bool.false_and]
    clear h0
    go_enter Tryd.func69, Tryd.ntmps69
    go_wp2
    go_ret
    exact ⟨rfl, Below.refl _ _⟩
/-- What is held while the model's numbers are reckoned with. -/
structure PB (w0 w : World) (B : Nat) (k : Mk) (cx : Cx) (st : St) : Prop where
  b : Below w0.heap.size w0 w
  r : MR w B k cx st
theorem heldM {w0 w w' : World} {B : Nat} {k : Mk} {cx : Cx} {st : St} (b : Below w.heap.size w w') (hh : (fun w' : World => w'.cell? ⟨B, 0, none⟩ = some (.int .i64 k.vr) ∧ w'.cell? ⟨B, 1, none⟩ = some (.int .i64 k.wd) ∧ w'.cell? ⟨B, 2, none⟩ = some (.int .i64 k.cp) ∧ w'.cell? ⟨B, 3, none⟩ = some (.int .i64 k.pr) ∧ w'.cell? ⟨B, 4, none⟩ = some (.int .u64 k.sa) ∧ w'.cell? ⟨B, 5, none⟩ = some (.slice k.U k.un k.uc) ∧ w'.cell? ⟨B, 6, none⟩ = some (.int .u64 k.s0) ∧ w'.cell? ⟨B, 7, none⟩ = some (.slice k.E k.en k.ec) ∧ w'.cell? ⟨B, 8, none⟩ = some (.int .i64 st.taken) ∧ w'.cell? ⟨B, 9, none⟩ = some (.int .i64 st.granted) ∧ PB w0 w' B k cx st) w) : (fun w' : World => w'.cell? ⟨B, 0, none⟩ = some (.int .i64 k.vr) ∧ w'.cell? ⟨B, 1, none⟩ = some (.int .i64 k.wd) ∧ w'.cell? ⟨B, 2, none⟩ = some (.int .i64 k.cp) ∧ w'.cell? ⟨B, 3, none⟩ = some (.int .i64 k.pr) ∧ w'.cell? ⟨B, 4, none⟩ = some (.int .u64 k.sa) ∧ w'.cell? ⟨B, 5, none⟩ = some (.slice k.U k.un k.uc) ∧ w'.cell? ⟨B, 6, none⟩ = some (.int .u64 k.s0) ∧ w'.cell? ⟨B, 7, none⟩ = some (.slice k.E k.en k.ec) ∧ w'.cell? ⟨B, 8, none⟩ = some (.int .i64 st.taken) ∧ w'.cell? ⟨B, 9, none⟩ = some (.int .i64 st.granted) ∧ PB w0 w' B k cx st) w' := by
  obtain ⟨c0, c1, c2, c3, c4, c5, c6, c7, c8, c9, hv⟩ := hh
  have go : ∀ {p : Addr} {v : Value}, w.cell? p = some v → w'.cell? p = some v := fun hp => (b.cell (World.block_lt_of_cell? _ _ hp)).trans hp
  exact ⟨go c0, go c1, go c2, go c3, go c4, go c5, go c6, go c7, go c8, go c9, ⟨hv.b.trans (b.mono hv.b.size), hv.r.below b⟩⟩
theorem heldMOf {w0 w' : World} {B : Nat} {k : Mk} {cx : Cx} {st : St} (hh : w'.cell? ⟨B, 0, none⟩ = some (.int .i64 k.vr) ∧ w'.cell? ⟨B, 1, none⟩ = some (.int .i64 k.wd) ∧ w'.cell? ⟨B, 2, none⟩ = some (.int .i64 k.cp) ∧ w'.cell? ⟨B, 3, none⟩ = some (.int .i64 k.pr) ∧ w'.cell? ⟨B, 4, none⟩ = some (.int .u64 k.sa) ∧ w'.cell? ⟨B, 5, none⟩ = some (.slice k.U k.un k.uc) ∧ w'.cell? ⟨B, 6, none⟩ = some (.int .u64 k.s0) ∧ w'.cell? ⟨B, 7, none⟩ = some (.slice k.E k.en k.ec) ∧ w'.cell? ⟨B, 8, none⟩ = some (.int .i64 st.taken) ∧ w'.cell? ⟨B, 9, none⟩ = some (.int .i64 st.granted) ∧ PB w0 w' B k cx st) : PB w0 w' B k cx st := by
  obtain ⟨c0, c1, c2, c3, c4, c5, c6, c7, c8, c9, hv⟩ := hh
  exact hv
theorem heldMg {w0 w w' : World} {B : Nat} {k : Mk} {cx : Cx} {st : St} {gm : Int} (b : Below w.heap.size w w') (hh : (fun w' : World => w'.cell? ⟨B, 0, none⟩ = some (.int .i64 k.vr) ∧ w'.cell? ⟨B, 1, none⟩ = some (.int .i64 k.wd) ∧ w'.cell? ⟨B, 2, none⟩ = some (.int .i64 k.cp) ∧ w'.cell? ⟨B, 3, none⟩ = some (.int .i64 k.pr) ∧ w'.cell? ⟨B, 4, none⟩ = some (.int .u64 k.sa) ∧ w'.cell? ⟨B, 5, none⟩ = some (.slice k.U k.un k.uc) ∧ w'.cell? ⟨B, 6, none⟩ = some (.int .u64 k.s0) ∧ w'.cell? ⟨B, 7, none⟩ = some (.slice k.E k.en k.ec) ∧ w'.cell? ⟨B, 8, none⟩ = some (.int .i64 st.taken) ∧ w'.cell? ⟨B, 9, none⟩ = some (.int .i64 gm) ∧ PB w0 w' B k cx st) w) : (fun w' : World => w'.cell? ⟨B, 0, none⟩ = some (.int .i64 k.vr) ∧ w'.cell? ⟨B, 1, none⟩ = some (.int .i64 k.wd) ∧ w'.cell? ⟨B, 2, none⟩ = some (.int .i64 k.cp) ∧ w'.cell? ⟨B, 3, none⟩ = some (.int .i64 k.pr) ∧ w'.cell? ⟨B, 4, none⟩ = some (.int .u64 k.sa) ∧ w'.cell? ⟨B, 5, none⟩ = some (.slice k.U k.un k.uc) ∧ w'.cell? ⟨B, 6, none⟩ = some (.int .u64 k.s0) ∧ w'.cell? ⟨B, 7, none⟩ = some (.slice k.E k.en k.ec) ∧ w'.cell? ⟨B, 8, none⟩ = some (.int .i64 st.taken) ∧ w'.cell? ⟨B, 9, none⟩ = some (.int .i64 gm) ∧ PB w0 w' B k cx st) w' := by
  obtain ⟨c0, c1, c2, c3, c4, c5, c6, c7, c8, c9, hv⟩ := hh
  have go : ∀ {p : Addr} {v : Value}, w.cell? p = some v → w'.cell? p = some v := fun hp => (b.cell (World.block_lt_of_cell? _ _ hp)).trans hp
  exact ⟨go c0, go c1, go c2, go c3, go c4, go c5, go c6, go c7, go c8, go c9, ⟨hv.b.trans (b.mono hv.b.size), hv.r.below b⟩⟩
theorem heldMgOf {w0 w' : World} {B : Nat} {k : Mk} {cx : Cx} {st : St} {gm : Int} (hh : w'.cell? ⟨B, 0, none⟩ = some (.int .i64 k.vr) ∧ w'.cell? ⟨B, 1, none⟩ = some (.int .i64 k.wd) ∧ w'.cell? ⟨B, 2, none⟩ = some (.int .i64 k.cp) ∧ w'.cell? ⟨B, 3, none⟩ = some (.int .i64 k.pr) ∧ w'.cell? ⟨B, 4, none⟩ = some (.int .u64 k.sa) ∧ w'.cell? ⟨B, 5, none⟩ = some (.slice k.U k.un k.uc) ∧ w'.cell? ⟨B, 6, none⟩ = some (.int .u64 k.s0) ∧ w'.cell? ⟨B, 7, none⟩ = some (.slice k.E k.en k.ec) ∧ w'.cell? ⟨B, 8, none⟩ = some (.int .i64 st.taken) ∧ w'.cell? ⟨B, 9, none⟩ = some (.int .i64 gm) ∧ PB w0 w' B k cx st) : PB w0 w' B k cx st := by
  obtain ⟨c0, c1, c2, c3, c4, c5, c6, c7, c8, c9, hv⟩ := hh
  exact hv
theorem gap_c {n a b : Int} (w : World) : Calls Tryd.prog 80 #[.int .i64 n, .int .u64 a, .int .u64 b] w fun e w' => e = .returned (.int .i64 (gapW n a b)) ∧ Below w.heap.size w w' :=
  (QWi.wide_Gap.calls n a b _ w (gap_f n a b)).mono fun e w' ⟨h, d⟩ => ⟨h, drawn_below d⟩
theorem plus_c {n a m : Int} (w : World) : Calls Tryd.prog 81 #[.int .i64 n, .int .u64 a, .int .i64 m] w fun e w' => e = .returned (.int .u64 (plusW n a m)) ∧ Below w.heap.size w w' :=
  (QWi.wide_Plus.calls n a m _ w (plus_f n a m)).mono fun e w' ⟨h, d⟩ => ⟨h, drawn_below d⟩
set_option maxHeartbeats 4000000 in
theorem pcount (w : World) (B : Nat) (k : Mk) (cx : Cx) (st : St) (h : MR w B k cx st) (pos : Int) :
    Calls Tryd.prog 37 #[.pointer (some ⟨B, 0, none⟩), .int .u64 pos] w fun e w' => e = .returned (.int .i64 (cx.cnt st.taken pos)) ∧ Below w.heap.size w w' := by
  obtain ⟨c0, c1, c2, c3, c4, c5, c6, c7, c8, c9, c10, c11, c12, c13, c14, c15⟩ := cell16 h.blk
  have HCT := Aside.mk (show cx.cnt st.taken pos = IntKind.i64.wrap (st.taken + gapW k.wd pos (plusW k.wd k.s0 st.taken)) by rw [h.ct, wrapE, h.s0]; rfl)
  have hHD := heldM (below_drew1 (Below.refl w.heap.size w)) (And.intro c0 (And.intro c1 (And.intro c2 (And.intro c3 (And.intro c4 (And.intro c5 (And.intro c6 (And.intro c7 (And.intro c8 (And.intro c9 (PB.mk (Below.refl _ _) h)))))))))))
  clear h
  go_enter Tryd.func37, Tryd.ntmps37
  go_wp2_with fail
  clear c0 c1 c2 c3 c4 c5 c6 c7 c8 c9 c10 c11 c12 c13 c14 c15
  go_region_held3 (fun w' => w'.cell? ⟨B, 0, none⟩ = some (.int .i64 k.vr) ∧ w'.cell? ⟨B, 1, none⟩ = some (.int .i64 k.wd) ∧ w'.cell? ⟨B, 2, none⟩ = some (.int .i64 k.cp) ∧ w'.cell? ⟨B, 3, none⟩ = some (.int .i64 k.pr) ∧ w'.cell? ⟨B, 4, none⟩ = some (.int .u64 k.sa) ∧ w'.cell? ⟨B, 5, none⟩ = some (.slice k.U k.un k.uc) ∧ w'.cell? ⟨B, 6, none⟩ = some (.int .u64 k.s0) ∧ w'.cell? ⟨B, 7, none⟩ = some (.slice k.E k.en k.ec) ∧ w'.cell? ⟨B, 8, none⟩ = some (.int .i64 st.taken) ∧ w'.cell? ⟨B, 9, none⟩ = some (.int .i64 st.granted) ∧ PB w w' B k cx st) (first | exact hHD | exact heldM (by assumption) (by assumption)) (first | (go_at_call 81; refine (plus_c _).mono ?_; rintro r w7 ⟨rfl, b⟩) | (go_at_call 80; refine (gap_c _).mono ?_; rintro r w7 ⟨rfl, b⟩))
  have HG := Aside.mk (heldMOf (by assumption))
  go_wp2
  go_ret
  exact ⟨by rw [HCT.out]; rfl, HG.out.b⟩
set_option maxHeartbeats 4000000 in
theorem pspace (w : World) (B : Nat) (k : Mk) (cx : Cx) (st : St) (h : MR w B k cx st) :
    Calls Tryd.prog 30 #[.pointer (some ⟨B, 0, none⟩)] w fun e w' => e = .returned (.int .i64 (space cx st)) ∧ Below w.heap.size w w' := by
  have HSP := Aside.mk (show space cx st = min (max (k.cp - st.granted + least st.gate cx.ends) 0) k.cp by unfold space; rw [h.cp])
  have HE := Aside.mk (spF_ok (w64 (show -4611686018427387904 ≤ k.cp - st.granted ∧ k.cp - st.granted ≤ 4611686018427387904 by have := h.rb; have := h.c64; have := h.cp; omega)) (w64 (show -4611686018427387904 ≤ k.cp - st.granted + least st.gate cx.ends ∧ k.cp - st.granted + least st.gate cx.ends ≤ 4611686018427387904 by have := h.rb; have := h.c64; have := h.cp; have := least_bd h.gb cx.ends; omega)))
  obtain ⟨c0, c1, c2, c3, c4, c5, c6, c7, c8, c9, c10, c11, c12, c13, c14, c15⟩ := cell16 h.blk
  have hHD := heldM (below_drew1 (Below.refl w.heap.size w)) (And.intro c0 (And.intro c1 (And.intro c2 (And.intro c3 (And.intro c4 (And.intro c5 (And.intro c6 (And.intro c7 (And.intro c8 (And.intro c9 (PB.mk (Below.refl _ _) h)))))))))))
  clear h
  generalize hgm : st.granted = gm at *
  clear hgm
  go_enter Tryd.func30, Tryd.ntmps30
  go_wp2_with fail
  clear c0 c1 c2 c3 c4 c5 c6 c7 c8 c9 c10 c11 c12 c13 c14 c15
  go_region_held3 (fun w' => w'.cell? ⟨B, 0, none⟩ = some (.int .i64 k.vr) ∧ w'.cell? ⟨B, 1, none⟩ = some (.int .i64 k.wd) ∧ w'.cell? ⟨B, 2, none⟩ = some (.int .i64 k.cp) ∧ w'.cell? ⟨B, 3, none⟩ = some (.int .i64 k.pr) ∧ w'.cell? ⟨B, 4, none⟩ = some (.int .u64 k.sa) ∧ w'.cell? ⟨B, 5, none⟩ = some (.slice k.U k.un k.uc) ∧ w'.cell? ⟨B, 6, none⟩ = some (.int .u64 k.s0) ∧ w'.cell? ⟨B, 7, none⟩ = some (.slice k.E k.en k.ec) ∧ w'.cell? ⟨B, 8, none⟩ = some (.int .i64 st.taken) ∧ w'.cell? ⟨B, 9, none⟩ = some (.int .i64 gm) ∧ PB w w' B k cx st) (first | exact hHD | exact heldMg (by assumption) (by assumption)) (first | (go_at_call 28; refine (pleast _ B k cx st (heldMgOf (by assumption)).r).mono ?_; rintro r w7 ⟨rfl, b⟩))
  have HG := Aside.mk (heldMgOf (by assumption))
  rw [show (if k.cp < (if IntKind.i64.wrap (IntKind.i64.wrap (k.cp - gm) + least st.gate cx.ends) < 0 then 0 else IntKind.i64.wrap (IntKind.i64.wrap (k.cp - gm) + least st.gate cx.ends)) then k.cp else (if IntKind.i64.wrap (IntKind.i64.wrap (k.cp - gm) + least st.gate cx.ends) < 0 then 0 else IntKind.i64.wrap (IntKind.i64.wrap (k.cp - gm) + least st.gate cx.ends))) = spF k.cp gm (least st.gate cx.ends) from rfl, show (if IntKind.i64.wrap (IntKind.i64.wrap (k.cp - gm) + least st.gate cx.ends) < 0 then 0 else IntKind.i64.wrap (IntKind.i64.wrap (k.cp - gm) + least st.gate cx.ends)) = inF k.cp gm (least st.gate cx.ends) from rfl]
  generalize hsf : spF k.cp gm (least st.gate cx.ends) = sf at *
  generalize inF k.cp gm (least st.gate cx.ends) = sg at *
  go_wp2
  go_ret
  exact ⟨by rw [HSP.out, ← HE.out]; rfl, HG.out.b⟩
set_option maxHeartbeats 4000000 in
theorem pconsumer (w : World) (B : Nat) (k : Mk) (cx : Cx) (st : St) (h : MR w B k cx st) (t : Int) (ht : I64 t) :
    Calls Tryd.prog 111 #[.pointer (some ⟨B, 0, none⟩), .int .i64 t] w fun e w' => e = .returned (.tuple #[.int .i64 (if isCons cx t then ((cons cx t : Nat) : Int) else 0), .bool (decide (isCons cx t))]) ∧ Below w.heap.size w w' := by
  obtain ⟨c0, c1, c2, c3, c4, c5, c6, c7, c8, c9, c10, c11, c12, c13, c14, c15⟩ := cell16 h.blk
  rw [h.pr] at c3
  rw [h.gn] at c14
  have hp4 := h.p4
  clear h
  obtain ⟨ht0, ht1⟩ := ht
  by_cases h0 : t < 0
  · have t1 : decide (t < 0) = true := decide_eq_true h0
    have e : ¬ isCons cx t := by unfold isCons; omega
    rw [if_neg e, decide_eq_false e]
    clear e h0 ht0 ht1 hp4
    go_enter Tryd.func111, Tryd.ntmps111
    go_wp2
    go_ret2
    exact ⟨rfl, Below.refl _ _⟩
  have t1 : decide (t < 0) = false := decide_eq_false h0
  have ew : wrap64 (t - (cx.prod : Int)) = t - (cx.prod : Int) := by unfold wrap64; omega
  obtain ⟨d, hd⟩ : ∃ d, t - (cx.prod : Int) = d := ⟨_, rfl⟩
  replace ew := ew.trans hd
  by_cases h1 : d < 0
  · have t2 : decide (d < 0) = true := decide_eq_true h1
    have e : ¬ isCons cx t := by unfold isCons; omega
    rw [if_neg e, decide_eq_false e]
    clear e h0 h1 ht0 ht1 hp4 hd
    go_enter Tryd.func111, Tryd.ntmps111
    go_wp2
    go_ret2
    exact ⟨rfl, Below.refl _ _⟩
  have t2 : decide (d < 0) = false := decide_eq_false h1
  by_cases h2 : (cx.up.length : Int) ≤ d
  · have t3 : decide ((cx.up.length : Int) ≤ d) = true := decide_eq_true h2
    have e : ¬ isCons cx t := by unfold isCons; omega
    rw [if_neg e, decide_eq_false e]
    clear e h0 h1 h2 ht0 ht1 hp4 hd
    go_enter Tryd.func111, Tryd.ntmps111
    go_wp2
    go_ret2
    exact ⟨rfl, Below.refl _ _⟩
  have t3 : decide ((cx.up.length : Int) ≤ d) = false := decide_eq_false h2
  have e : isCons cx t := by unfold isCons; omega
  have e2 : ((cons cx t : Nat) : Int) = d := by unfold cons; omega
  rw [if_pos e, decide_eq_true e, e2]
  clear e e2 h0 h1 h2 ht0 ht1 hp4 hd
  go_enter Tryd.func111, Tryd.ntmps111
  go_upto_region 2 with (fail)
  rw [ew]
  go_wp2
  go_ret2
  exact ⟨rfl, Below.refl _ _⟩
theorem put4 {w0 w : World} {R : Nat} {t : TypeId} {a0 a1 a2 a3 : Value} (v0 v1 v2 v3 : Value) (b : Below w0.heap.size w0 w) (hR : w0.heap.size ≤ R) (h : w.heap[R]? = some (.cells #[a0, a1, a2, a3] t (0, 0))) :
    ((((w.setCell ⟨R, 0, none⟩ v0).setCell ⟨R, 1, none⟩ v1).setCell ⟨R, 2, none⟩ v2).setCell ⟨R, 3, none⟩ v3).heap[R]? = some (.cells #[v0, v1, v2, v3] t (0, 0)) ∧ Below w0.heap.size w0 ((((w.setCell ⟨R, 0, none⟩ v0).setCell ⟨R, 1, none⟩ v1).setCell ⟨R, 2, none⟩ v2).setCell ⟨R, 3, none⟩ v3) := by
  have k0 := blk_put (cs' := #[v0, a1, a2, a3]) h 0 v0 rfl
  have k1 := blk_put (cs' := #[v0, v1, a2, a3]) k0 1 v1 rfl
  have k2 := blk_put (cs' := #[v0, v1, v2, a3]) k1 2 v2 rfl
  have k3 := blk_put (cs' := #[v0, v1, v2, v3]) k2 3 v3 rfl
  exact ⟨k3, (((b.setCell hR _).setCell hR _).setCell hR _).setCell hR _⟩
theorem held_at {w : World} {B : Nat} {k : Mk} {cx : Cx} {st : St} (h : MR w B k cx st) (j : Nat) (hj : j < cx.prod) : ∃ ad, k.H = some ad ∧ w.cell? (ad.add (j * 4)) = some (.int .i64 (held st j).f) ∧ w.cell? ⟨(ad.add (j * 4)).block, (ad.add (j * 4)).off + 1, none⟩ = some (.int .i64 (held st j).n) ∧ w.cell? ⟨(ad.add (j * 4)).block, (ad.add (j * 4)).off + 2, none⟩ = some (.int .i64 (held st j).p) ∧ w.cell? ⟨(ad.add (j * 4)).block, (ad.add (j * 4)).off + 3, none⟩ = some (.bool (held st j).g) := by
  have hl : j < st.held.length := by rw [h.wf.lh]; exact hj
  have e : held st j = st.held[j] := by unfold held; rw [List.getD_eq_getElem?_getD, List.getElem?_eq_getElem hl]; rfl
  rw [e]
  exact h.h j hl
set_option maxHeartbeats 4000000 in
theorem pholds (w : World) (B : Nat) (k : Mk) (cx : Cx) (st : St) (h : MR w B k cx st) (t : Nat) (ht : t < cx.prod) :
    Calls Tryd.prog 34 #[.pointer (some ⟨B, 0, none⟩), .int .i64 (t : Int)] w fun e w' => e = .returned (.tuple #[.agg #[.int .i64 (held st t).f, .int .i64 (held st t).n, .int .i64 (held st t).p, .bool (held st t).g], .bool (!isZ (held st t))]) ∧ Below w.heap.size w w' := by
  have HM := Aside.mk (h.below (below_alloc (Below.refl w.heap.size w) (.cells #[.int .i64 0, .int .i64 0, .int .i64 0, .bool false] 62)))
  have HB := Aside.mk (below_alloc (Below.refl w.heap.size w) (.cells #[.int .i64 0, .int .i64 0, .int .i64 0, .bool false] 62))
  have HX := Aside.mk (heap_alloc_new w (.cells #[.int .i64 0, .int .i64 0, .int .i64 0, .bool false] 62))
  have HT := Aside.mk (show (decide (0 ≤ (t : Int)) && decide ((t : Int) < (cx.prod : Int))) = true by
    rw [decide_eq_true (show (0 : Int) ≤ (t : Int) by omega), decide_eq_true (show (t : Int) < (cx.prod : Int) by omega)]; rfl)
  have HTL := Aside.mk ht
  have H0 := Aside.mk h
  clear h ht
  go_enter Tryd.func34, Tryd.ntmps34
  go_upto_region 1 with (fail)
  generalize w.alloc (.cells #[.int .i64 0, .int .i64 0, .int .i64 0, .bool false] 62) = w2 at *
  go_wp2_with fail
  refine (pproducer _ B k cx st HM.out (t : Int)).mono ?_
  rw [HT.out]
  rintro r w3 ⟨rfl, hb⟩
  replace HX := Aside.mk (blk_below HX.out hb)
  replace HB := Aside.mk (HB.out.trans (hb.mono HB.out.size))
  replace HM := Aside.mk (HM.out.below hb)
  obtain ⟨hd0, eH, a0, a1, a2, a3⟩ := held_at HM.out t HTL.out
  obtain ⟨c0, c1, c2, c3, c4, c5, c6, c7, c8, c9, c10, c11, c12, c13, c14, c15⟩ := cell16 HM.out.blk
  rw [eH] at c11
  have g1 : decide ((t : Int) < (k.hn : Int)) = true := decide_eq_true (by rw [HM.out.hn]; have := HTL.out; omega)
  have g2 : (t : Int) < (k.hn : Int) := by rw [HM.out.hn]; have := HTL.out; omega
  have g3 : decide (t < k.hn) = true := decide_eq_true (by rw [HM.out.hn]; exact HTL.out)
  have HWH := Aside.mk (show ((held st t).f = 0 ∧ (held st t).n = 0 ∧ (held st t).p = 0 ∧ (held st t).g = false) ∨ ((held st t).f = 0 ∧ (held st t).n ≠ 0) ∨ (held st t).f ≠ 0 by
    rcases HM.out.wf.hw t HTL.out with h3 | h3
    · rw [h3]; exact .inl ⟨rfl, rfl, rfl, rfl⟩
    · by_cases h4 : (held st t).f = 0
      · exact .inr (.inl ⟨h4, by have := h3.1; omega⟩)
      · exact .inr (.inr h4))
  generalize hhh : held st t = h at *
  have HHH := Aside.mk hhh
  have HF := Aside.mk (put4 (w0 := w) (R := w.heap.size) (.int .i64 h.f) (.int .i64 h.n) (.int .i64 h.p) (.bool h.g) HB.out (Nat.le_refl _) HX.out)
  obtain ⟨r0, r1, r2, r3⟩ := cell4 HX.out
  have f0 := blk_frozen HX.out 0
  have f1 := blk_frozen HX.out 1
  have f2 := blk_frozen HX.out 2
  have f3 := blk_frozen HX.out 3
  have HM4 := Aside.mk (H0.out.below HF.out.2)
  obtain ⟨hd1, eH1, b0, b1, b2, b3⟩ := held_at HM4.out t HTL.out
  rw [HHH.out] at b0 b1 b2 b3
  rw [eH] at eH1
  injection eH1 with eH1
  subst eH1
  obtain ⟨d0, d1, d2, d3, d4, d5, d6, d7, d8, d9, d10, d11, d12, d13, d14, d15⟩ := cell16 HM4.out.blk
  rw [eH] at d11
  clear d0 d1 d2 d3 d4 d5 d6 d7 d8 d9 d10 d12 d13 d14 d15 HM4
  clear hb eH hhh
  obtain ⟨hf, hn, hp, hg⟩ := h
  simp only at a0 a1 a2 a3 HF b0 b1 b2 b3 d11
  rcases HWH.out with ⟨e1, e2, e3, e4⟩ | ⟨e1, e2⟩ | e1
  · simp only at e1 e2 e3 e4
    subst e1 e2 e3 e4
    go_wp2_with fail
    go_region
    all_goals
      go_wp2
      refine bodyPost_ret (results_ct rfl _ _ w.heap.size 62 #[.int .i64 0, .int .i64 0, .int .i64 0, .bool false] (0, 0) _ rfl (blk_drew HF.out.1) Tryd.underlying62 rfl (by kernel_rfl)) rfl ?_
      exact ⟨by rw [HHH.out]; rfl, below_drew1 HF.out.2⟩
  · simp only at e1 e2
    subst e1
    have HZ := Aside.mk (show (!isZ (held st t)) = true by rw [HHH.out]; unfold isZ; simp [e2])
    go_wp2_with fail
    go_region
    all_goals
      go_wp2
      refine bodyPost_ret (results_ct rfl _ _ w.heap.size 62 #[.int .i64 0, .int .i64 hn, .int .i64 hp, .bool hg] (0, 0) _ rfl (blk_drew HF.out.1) Tryd.underlying62 rfl (by kernel_rfl)) rfl ?_
      exact ⟨by rw [HZ.out, HHH.out]; rfl, below_drew1 HF.out.2⟩
  · simp only at e1
    have HZ := Aside.mk (show (!isZ (held st t)) = true by rw [HHH.out]; unfold isZ; simp [e1])
    go_wp2_with fail
    go_region
    all_goals
      go_wp2
      refine bodyPost_ret (results_ct rfl _ _ w.heap.size 62 #[.int .i64 hf, .int .i64 hn, .int .i64 hp, .bool hg] (0, 0) _ rfl (blk_drew HF.out.1) Tryd.underlying62 rfl (by kernel_rfl)) rfl ?_
      exact ⟨by rw [HZ.out, HHH.out]; rfl, below_drew1 HF.out.2⟩

end Go.Proofs.YtnnfcdffnckoiaaDoor.Mo
/- What happened grows by one: what stood of it still stands. -/
set_option linter.unusedVariables false
set_option linter.unusedSimpArgs false
namespace Go.Proofs.YtnnfcdffnckoiaaDoor.Mo
open Go.RowKit
theorem take_snoc_le {L : List On} {x : On} {i : Nat} (h : i ≤ L.length) : (L ++ [x]).take i = L.take i := List.take_append_of_le_length h
theorem smallT_snoc {L : List On} {x : On} (h : SmallT L) (hb : 0 ≤ taken (L ++ [x]) ∧ taken (L ++ [x]) ≤ 1000000) : SmallT (L ++ [x]) := by
  intro i hi
  by_cases hlt : i ≤ L.length
  · rw [take_snoc_le hlt]
    exact h i hlt
  · rw [List.take_of_length_le (by simp at hi ⊢; omega)]
    exact hb
theorem smallH_snoc {L : List On} {x : On} {t : Int} (h : SmallH L t) (hx : x.e.kind = 5 → x.e.thread = t → -4611686018427387904 ≤ (holds L t).p + x.e.n ∧ (holds L t).p + x.e.n ≤ 4611686018427387904) : SmallH (L ++ [x]) t := by
  intro i hi h5 ht
  by_cases hlt : i < L.length
  · rw [List.getElem_append_left hlt] at h5 ht ⊢
    rw [take_snoc_le (Nat.le_of_lt hlt)]
    exact h i hlt h5 ht
  · have e : i = L.length := by simp at hi; omega
    subst e
    simp only [List.getElem_append_right (Nat.le_refl _), Nat.sub_self, List.getElem_singleton] at h5 ht ⊢
    rw [take_snoc_le (Nat.le_refl _), List.take_length]
    exact hx h5 ht
/-- A step that is told to be right keeps both. -/
theorem step_keeps {cx : Cx} {st : St} {e : Ev} {L : List On} (w : Wf cx st) (r : Rel cx st L) (hk : 3 ≤ e.kind) (hc : code cx st e = 0) : Wf cx (next cx st e) ∧ Rel cx (next cx st e) (L ++ [⟨e, cOf cx st e⟩]) := by
  unfold code at hc
  unfold next cOf
  split at hc
  · next h => rw [if_pos h, if_neg (by omega)]; exact take_step w r h hc
  split at hc
  · next h3 h => rw [if_neg h3, if_pos h, if_pos h]; exact grant_step w r h hc
  split at hc
  · next h3 h4 h => rw [if_neg h3, if_neg h4, if_pos h, if_neg h4]; exact puts_step w r h hc
  split at hc
  · next h3 h4 h5 h =>
    rw [if_neg h3, if_neg h4, if_neg h5, if_pos h, if_neg h4]
    refine seen_step w r h ?_
    unfold seenC at hc
    split at hc
    · cases hc
    · next h9 => exact Decidable.not_not.1 h9
  split at hc
  · next h3 h4 h5 h6 h =>
    rw [if_neg h3, if_neg h4, if_neg h5, if_neg h6, if_pos h, if_neg h4]
    refine free_step w r h ?_
    unfold freeC at hc
    split at hc
    · cases hc
    · next h9 => exact Decidable.not_not.1 h9
  split at hc
  · omega
  · cases hc
theorem run_ge : ∀ (l : List Bool) (m : Nat), (∀ i, i < m → l.getD i false = true) → m ≤ run l
  | [], m, h => by
    cases m with
    | zero => exact Nat.zero_le _
    | succ m => have := h 0 (by omega); simp at this
  | b :: l, m, h => by
    cases m with
    | zero => exact Nat.zero_le _
    | succ m =>
      have h0 := h 0 (by omega)
      simp at h0
      subst h0
      have e : run (true :: l) = run l + 1 := by simp [run]
      have := run_ge l m (fun i hi => by have := h (i + 1) (by omega); simpa using this)
      omega
/-- How the numbers of a model lie to each other. -/
structure Lo (cx : Cx) (st : St) : Prop where
  g0 : ∀ k, 0 ≤ st.gate.getD k 0
  gs : ∀ k, st.gate.getD k 0 ≤ st.saw.getD k 0
  sp : ∀ k, st.saw.getD k 0 ≤ st.pre
  r0 : 0 ≤ st.granted
  rt : st.granted ≤ st.taken
theorem Lo.pre {cx : Cx} {st : St} (w : Wf cx st) : st.pre ≤ st.taken := by
  have h1 := w.pf
  have h2 := w.lp
  have h3 := run_le st.put
  omega
theorem least_le (gate : List Int) (l : List Nat) (hl : l ≠ []) : ∃ c ∈ l, least gate l ≤ gate.getD c 0 := by
  obtain ⟨x, r, rfl⟩ : ∃ x r, l = x :: r := by
    cases l with
    | nil => exact absurd rfl hl
    | cons x r => exact ⟨x, r, rfl⟩
  refine ⟨x, by simp, ?_⟩
  unfold least
  simp only [List.headD_cons, List.foldl_cons, Int.min_self]
  have hm : ∀ (r : List Nat) (n : Int), r.foldl (fun n c => min n (gate.getD c 0)) n ≤ n := by
    intro r
    induction r with
    | nil => intro n; exact Int.le_refl _
    | cons y r ih =>
      intro n
      simp only [List.foldl_cons]
      have := ih (min n (gate.getD y 0))
      omega
  exact hm r _
theorem Lo.lim {cx : Cx} {st : St} (h : Lo cx st) (k : Nat) : limit cx st k ≤ st.pre := by
  unfold limit
  split
  · exact Int.le_refl _
  · next hl =>
    obtain ⟨c, _, hc⟩ := least_le st.gate _ hl
    have := h.gs c
    have := h.sp c
    omega
theorem Lo.step {cx : Cx} {st : St} {e : Ev} (w : Wf cx st) (h : Lo cx st) (hk : 3 ≤ e.kind) (hc : code cx st e = 0) : Lo cx (next cx st e) := by
  unfold code at hc
  unfold next
  split at hc
  · next h3 =>
    rw [if_pos h3]
    obtain ⟨_, _, hn, _⟩ := take_ok hc
    exact ⟨h.g0, h.gs, h.sp, h.r0, by show st.granted ≤ st.taken + e.n; have := h.rt; omega⟩
  next h3 =>
  rw [if_neg h3]
  split at hc
  · next h4 =>
    rw [if_pos h4]
    obtain ⟨ht, hn, _, _⟩ := grant_ok hc
    have hz1 : held st e.thread.toNat ≠ hz := fun h => hn (by rw [h]; rfl)
    obtain ⟨_, _, g3, g4, _⟩ := wf_put w (show e.thread.toNat < cx.prod by omega) hz1
    refine ⟨h.g0, h.gs, h.sp, ?_, ?_⟩
    · show 0 ≤ max st.granted _; have := h.r0; omega
    · show max st.granted _ ≤ st.taken; have := h.rt; omega
  next h4 =>
  rw [if_neg h4]
  split at hc
  · next h5 =>
    rw [if_pos h5]
    obtain ⟨ht, hg, hn, _, hd⟩ := puts_ok hc
    have hz1 : held st e.thread.toNat ≠ hz := fun h => by rw [h] at hg; cases hg
    obtain ⟨g1, g2, g3, g4, g5, g6, _⟩ := wf_put w (show e.thread.toNat < cx.prod by omega) hz1
    have lp := w.lp
    have hat : (putAt st e : Int) = (held st e.thread.toNat).f + (held st e.thread.toNat).p := by unfold putAt; omega
    have hrl : (List.replicate e.n.toNat true).length = e.n.toNat := by simp
    have b1 : putAt st e + (List.replicate e.n.toNat true).length ≤ st.put.length := by rw [hrl]; omega
    have hp : st.pre ≤ (putsS st e).pre := by
      show st.pre ≤ ((run (setR st.put (putAt st e) (List.replicate e.n.toNat true)) : Nat) : Int)
      rw [w.pf]
      have := run_ge (setR st.put (putAt st e) (List.replicate e.n.toNat true)) (run st.put) (fun i hi => by
        by_cases hin : putAt st e ≤ i ∧ i < putAt st e + e.n.toNat
        · rw [setR_in _ _ _ b1 _ _ hin.1 (by rw [hrl]; exact hin.2), List.getD_eq_getElem?_getD, List.getElem?_replicate, if_pos (by omega)]; rfl
        · rw [setR_out _ _ _ b1 _ _ (by rw [hrl]; omega)]
          exact run_before _ i hi)
      omega
    exact ⟨h.g0, h.gs, fun k => Int.le_trans (h.sp k) hp, h.r0, h.rt⟩
  next h5 =>
  rw [if_neg h5]
  split at hc
  · next h6 =>
    rw [if_pos h6]
    unfold seenC at hc
    split at hc
    · cases hc
    next hcn =>
    split at hc
    · cases hc
    next hs =>
    split at hc
    · cases hc
    next hl =>
    have hkc : cons cx e.thread < st.saw.length := by
      have h8 := Decidable.not_not.1 hcn
      rw [w.ls]; unfold isCons at h8; unfold cons; omega
    have hsw : ∀ u, (seenS cx st e).saw.getD u 0 = if u = cons cx e.thread then cx.cnt st.taken e.pos else st.saw.getD u 0 := fun u => int_set _ _ _ _ hkc
    refine ⟨h.g0, fun k => ?_, fun k => ?_, h.r0, h.rt⟩
    · rw [hsw]
      split
      · next e9 => subst e9; have := h.gs (cons cx e.thread); show st.gate.getD _ 0 ≤ _; omega
      · exact h.gs k
    · rw [hsw]
      split
      · have := h.lim (cons cx e.thread); show _ ≤ st.pre; omega
      · exact h.sp k
  next h6 =>
  rw [if_neg h6]
  split at hc
  · next h7 =>
    rw [if_pos h7]
    unfold freeC at hc
    split at hc
    · cases hc
    next hcn =>
    split at hc
    · cases hc
    next hs =>
    have hkc : cons cx e.thread < st.gate.length := by
      have h8 := Decidable.not_not.1 hcn
      rw [w.lg]; unfold isCons at h8; unfold cons; omega
    have hsw : ∀ u, (freeS cx st e).gate.getD u 0 = if u = cons cx e.thread then cx.cnt st.taken e.pos else st.gate.getD u 0 := fun u => int_set _ _ _ _ hkc
    refine ⟨fun k => ?_, fun k => ?_, h.sp, h.r0, h.rt⟩
    · rw [hsw]
      split
      · have := h.g0 (cons cx e.thread); omega
      · exact h.g0 k
    · rw [hsw]
      split
      · next e9 => subst e9; show _ ≤ st.saw.getD _ 0; omega
      · exact h.gs k
  next h7 =>
  split at hc
  · omega
  · cases hc
end Go.Proofs.YtnnfcdffnckoiaaDoor.Mo
/- The document's model: Apply. -/
set_option linter.unusedVariables false
set_option linter.unusedSimpArgs false
set_option maxRecDepth 100000
namespace Go.Proofs.YtnnfcdffnckoiaaDoor.Mo
open Go.RowKit Go.Proofs.YtnnfcdffnckoiaaDoorW.PrintWords Go.Proofs.YtnnfcdffnckoiaaDoorW.PrintLast Go.Proofs.YtnnfcdffnckoiaaDoorW.PrintMore
/-- What stands while an event is added. -/
structure AB (w0 w : World) (m : Mp) (e : Ev) (B : Option Addr) (c : Nat) (up : List (List Int)) (cx : Cx) (st : St) : Prop where
  v : VB w0 w m up cx st
  x : w.heap[w0.heap.size]? = some (.cells #[.int .i64 m.vr, .int .i64 m.wd, .int .i64 m.cp, .int .i64 m.pr, .int .u64 m.sa, .slice m.U m.un m.uc, .slice m.A m.L.length m.C] 68 (0, 0))
  y : w.heap[w0.heap.size + 1]? = some (.cells #[.int .i64 e.kind, .int .i64 e.thread, .int .i64 e.op, .int .i64 e.n, .int .u64 e.pos, .int .i64 e.code, .slice B e.data.length c] 44 (0, 0))
  z : w.heap[w0.heap.size + 1 + 1]? = some (.cells #[.int .i64 0, .int .i64 0, .int .i64 0, .int .i64 0, .int .u64 0, .slice none 0 0, .slice none 0 0] 68 (0, 0))
theorem AB.step {w0 w w' : World} {m : Mp} {e : Ev} {B : Option Addr} {c : Nat} {up : List (List Int)} {cx : Cx} {st : St} (h : AB w0 w m e B c up cx st) (b : Below w.heap.size w w') : AB w0 w' m e B c up cx st := ⟨h.v.step b, blk_below h.x b, blk_below h.y b, blk_below h.z b⟩
end Go.Proofs.YtnnfcdffnckoiaaDoor.Mo
/- The document's model: Apply at an event that is right. -/
set_option linter.unusedVariables false
set_option linter.unusedSimpArgs false
set_option maxRecDepth 100000
namespace Go.Proofs.YtnnfcdffnckoiaaDoor.Mo
open Go.RowKit Go.Proofs.YtnnfcdffnckoiaaDoorW.PrintWords Go.Proofs.YtnnfcdffnckoiaaDoorW.PrintLast Go.Proofs.YtnnfcdffnckoiaaDoorW.PrintMore
def oneC (x : On) (B : Option Addr) (c : Nat) : List Value := [.int .i64 x.e.kind, .int .i64 x.e.thread, .int .i64 x.e.op, .int .i64 x.e.n, .int .u64 x.e.pos, .int .i64 x.e.code, .slice B x.e.data.length c, .int .i64 x.c]
/-- What the document's model has in memory: a row of its own; data and lists that lie below base. -/
structure RefS (base : Nat) (w : World) (m : Mp) (up : List (List Int)) : Prop where
  l : ∃ rows : List (List Value), rows.length = m.L.length ∧ (Kd.raw 8).R 102 w base (fun _ => True) (.slice m.A m.L.length m.C) rows ∧ ∀ (j : Nat) (h : j < m.L.length), ∃ B c, rows[j]? = some (oneC m.L[j] B c) ∧ m.L[j].e.data.length ≤ c ∧ Kd.F (Kd.int .i64) w (fun q => q < base) B m.L[j].e.data.length m.L[j].e.data
  u : Kd.F (Kd.slice 3 (Kd.int .i64)) w (fun q => q < base) m.U up.length up
/-- It stays while what is below base, and its own row, stay. -/
theorem RefS.step {base : Nat} {w w' : World} {m : Mp} {up : List (List Int)} (h : RefS base w m up) (hm : ∀ q, q < w.heap.size → (q < base ∨ some q = (Value.slice m.A m.L.length m.C).ownBlock) → w'.heap[q]? = w.heap[q]?) : RefS base w' m up := by
  obtain ⟨⟨rows, h1, h2, h3⟩, hu⟩ := h
  refine ⟨⟨rows, h1, ?_, fun j hj => ?_⟩, Kd.F_step hu (fun q hq hlt => hm q hlt (.inl hq))⟩
  · exact Kd.R_mono (Kd.R_step (Kd.R_tight rfl h2) (fun q hq hlt => hm q hlt (.inr hq))) (fun _ _ => trivial)
  · obtain ⟨B, c, e1, e2, e3⟩ := h3 j hj
    exact ⟨B, c, e1, e2, Kd.F_step e3 (fun q hq hlt => hm q hlt (.inl hq))⟩
theorem RefS.below {base : Nat} {w w' : World} {m : Mp} {up : List (List Int)} (h : RefS base w m up) (b : Below w.heap.size w w') : RefS base w' m up := h.step (fun q hq _ => b.block q hq)
theorem RefS.ones {base : Nat} {w : World} {m : Mp} {up : List (List Int)} (h : RefS base w m up) : OnesC w m.A m.L := by
  obtain ⟨⟨rows, h1, h2, h3⟩, hu⟩ := h
  intro j hj
  obtain ⟨B, c, e1, e2, e3⟩ := h3 j hj
  have h0 : 0 < rows.length := by omega
  obtain ⟨g, cap, hv, hg1, hg2, cells, hg3⟩ := Kd.R_form h2 h0
  injection hv with hA hn hc
  obtain ⟨_, _, h5⟩ := (Kd.R_reads' h2).2.2
  obtain ⟨ad, ha, hr⟩ := h5 (by omega)
  obtain ⟨cs, hlen, ⟨rfl, _, _⟩, hcs⟩ := hr j _ e1
  rw [hA] at ha
  injection ha with ha
  subst ha
  have hc : ∀ i u, (oneC m.L[j] B c)[i]? = some u → w.cell? ⟨g, j * 8 + i, none⟩ = some u := fun i u hu => by
    have h := hcs i u hu
    rw [add_plain] at h
    exact h
  refine ⟨⟨g, 0, none⟩, B, c, hA, ?_, ?_, ?_, ?_, ?_, ?_, ?_, ?_, e2, Kd.F_now e3⟩
  all_goals (rw [add_plain]; first | exact hc 0 _ rfl | exact hc 1 _ rfl | exact hc 2 _ rfl | exact hc 3 _ rfl | exact hc 4 _ rfl | exact hc 5 _ rfl | exact hc 6 _ rfl | exact hc 7 _ rfl)
theorem RefS.ne {base : Nat} {w : World} {m : Mp} {up : List (List Int)} (h : RefS base w m up) {g t : Nat} {cs : Array Value} (hb : w.heap[g]? = some (.cells cs t (0, 0))) (ht : 102 ≠ t) : some g ≠ (Value.slice m.A m.L.length m.C).ownBlock := by
  obtain ⟨⟨rows, h1, h2, h3⟩, hu⟩ := h
  exact Kd.R_ne h2 hb ht
/-- A store into a block of another type, at base or above. -/
theorem RefS.far {base : Nat} {w : World} {m : Mp} {up : List (List Int)} (h : RefS base w m up) {g t : Nat} {cs : Array Value} (hb : w.heap[g]? = some (.cells cs t (0, 0))) (ht : 102 ≠ t) (hg : base ≤ g) (j : Nat) (u : Value) : RefS base (w.setCell ⟨g, j, none⟩ u) m up :=
  h.step (fun q hq hor => Below.heap_setCell w _ u q (by
    rcases hor with h1 | h1
    · show q ≠ g; omega
    · rintro rfl; exact h.ne hb ht h1))
theorem AB.far {w0 w : World} {m : Mp} {e : Ev} {B : Option Addr} {c : Nat} {up : List (List Int)} {cx : Cx} {st : St} {b : Nat} {cs : Array Value} (h : AB w0 w m e B c up cx st) (hb : w0.heap.size ≤ b) (ho : w.heap[b]? = some (.cells cs 102 (0, 0))) (hr : RefOk w0 m up cx st) (j : Nat) (u : Value) : AB w0 (w.setCell ⟨b, j, none⟩ u) m e B c up cx st :=
  have bb := h.v.b.setCell (p := ⟨b, j, none⟩) hb u
  ⟨⟨bb, hr.below bb⟩, blk_far h.x (p := ⟨b, j, none⟩) (blk_ne h.x ho (by decide)) u, blk_far h.y (p := ⟨b, j, none⟩) (blk_ne h.y ho (by decide)) u, blk_far h.z (p := ⟨b, j, none⟩) (blk_ne h.z ho (by decide)) u⟩
end Go.Proofs.YtnnfcdffnckoiaaDoor.Mo
/- The program's model: where its rows lie, and what a change of one of them leaves of the others. -/
set_option linter.unusedVariables false
set_option linter.unusedSimpArgs false
set_option maxRecDepth 100000
namespace Go.Proofs.YtnnfcdffnckoiaaDoor.Mo
open Go.RowKit Go.Proofs.YtnnfcdffnckoiaaDoorW.PrintWords Go.Proofs.YtnnfcdffnckoiaaDoorW.PrintLast Go.Proofs.YtnnfcdffnckoiaaDoorW.PrintMore
def hcl (h : Hd) : List Value := [.int .i64 h.f, .int .i64 h.n, .int .i64 h.p, .bool h.g]
/-- The blocks that are the model's own. -/
def Own (k : Mk) (B q : Nat) : Prop := q = B ∨ some q = (Value.slice k.H k.hn k.hc).ownBlock ∨ some q = (Value.slice k.P k.pn k.pc).ownBlock ∨ some q = (Value.slice k.D k.dn k.dc).ownBlock ∨ some q = (Value.slice k.G k.gn k.gc).ownBlock ∨ some q = (Value.slice k.S k.sn k.sc).ownBlock
theorem Own.no {k : Mk} {B q : Nat} (h : ¬ Own k B q) : q ≠ B ∧ some q ≠ (Value.slice k.H k.hn k.hc).ownBlock ∧ some q ≠ (Value.slice k.P k.pn k.pc).ownBlock ∧ some q ≠ (Value.slice k.D k.dn k.dc).ownBlock ∧ some q ≠ (Value.slice k.G k.gn k.gc).ownBlock ∧ some q ≠ (Value.slice k.S k.sn k.sc).ownBlock := by
  unfold Own at h
  simp only [not_or] at h
  exact h
structure MX (base : Nat) (w : World) (B : Nat) (k : Mk) (cx : Cx) (st : St) : Prop where
  bt : ∃ cs, w.heap[B]? = some (.cells cs 100 (0, 0))
  bb : base ≤ B
  h : (Kd.raw 4).R 62 w base (fun _ => True) (Value.slice k.H k.hn k.hc) (st.held.map hcl)
  p : Kd.bool.R 4 w base (fun _ => True) (Value.slice k.P k.pn k.pc) st.put
  d : (Kd.int .i64).R 3 w base (fun _ => True) (Value.slice k.D k.dn k.dc) st.data
  g : (Kd.int .i64).R 3 w base (fun _ => True) (Value.slice k.G k.gn k.gc) st.gate
  s : (Kd.int .i64).R 3 w base (fun _ => True) (Value.slice k.S k.sn k.sc) st.saw
  dg : ∀ q, (Value.slice k.D k.dn k.dc).ownBlock = some q → (Value.slice k.G k.gn k.gc).ownBlock ≠ some q
  ds : ∀ q, (Value.slice k.D k.dn k.dc).ownBlock = some q → (Value.slice k.S k.sn k.sc).ownBlock ≠ some q
  gs : ∀ q, (Value.slice k.G k.gn k.gc).ownBlock = some q → (Value.slice k.S k.sn k.sc).ownBlock ≠ some q
  e : Kd.F (Kd.int .i64) w (fun q => ¬ Own k B q ∧ q < cx.lim) k.E k.en (ints cx.ends)
  u : Kd.F (Kd.slice 3 (Kd.int .i64)) w (fun q => ¬ Own k B q ∧ q < cx.lim) k.U k.un (cx.up.map ints)
theorem MX.below {base : Nat} {w w' : World} {B : Nat} {k : Mk} {cx : Cx} {st : St} (h : MX base w B k cx st) (b : Below w.heap.size w w') : MX base w' B k cx st :=
  { h with bt := by obtain ⟨cs, hb⟩ := h.bt; exact ⟨cs, blk_below hb b⟩, h := Kd.R_below h.h b, p := Kd.R_below h.p b, d := Kd.R_below h.d b, g := Kd.R_below h.g b, s := Kd.R_below h.s b, e := Kd.F_below h.e b, u := Kd.F_below h.u b }
/-- The box is written. -/
theorem MX.setB {base : Nat} {w : World} {B : Nat} {k : Mk} {cx : Cx} {st : St} (h : MX base w B k cx st) (j : Nat) (u : Value) : MX base (w.setCell ⟨B, j, none⟩ u) B k cx st := by
  obtain ⟨cs, hb⟩ := h.bt
  exact { h with bt := ⟨_, blk_set hb j u⟩, h := Kd.R_set h.h hb (by decide) j u, p := Kd.R_set h.p hb (by decide) j u, d := Kd.R_set h.d hb (by decide) j u, g := Kd.R_set h.g hb (by decide) j u, s := Kd.R_set h.s hb (by decide) j u, e := Kd.F_far h.e (fun q ho => (Own.no ho.1).1) u, u := Kd.F_far h.u (fun q ho => (Own.no ho.1).1) u }
/-- A row with other elements, at the same place or at a new one. -/
def New (w : World) (a b : Value) : Prop := b.ownBlock = a.ownBlock ∨ ∃ q, b.ownBlock = some q ∧ w.heap.size ≤ q
theorem New.lt {w : World} {a b : Value} (h : New w a b) {q : Nat} (hb : b.ownBlock = some q) (hq : q < w.heap.size) : a.ownBlock = some q := by
  rcases h with h | ⟨r, h1, h2⟩
  · rw [← h]; exact hb
  · rw [h1] at hb; injection hb with hb; omega
theorem New.own {w : World} {a b : Value} (h : New w a b) {q : Nat} (hb : some q = b.ownBlock) : some q = a.ownBlock ∨ w.heap.size ≤ q := by
  rcases h with h | ⟨r, h1, h2⟩
  · rw [← h]; exact .inl hb
  · rw [h1] at hb; injection hb with hb; exact .inr (by omega)
theorem MX.updH {base : Nat} {w w1 : World} {B : Nat} {k : Mk} {cx : Cx} {st : St} {A : Option Addr} {n c : Nat} {l : List Hd} (h : MX base w B k cx st) (hr : (Kd.raw 4).R 62 w1 base (fun _ => True) (.slice A n c) (l.map hcl)) (hg : w.grownBy w1 (Value.slice k.H k.hn k.hc).ownBlock) (hn : New w (Value.slice k.H k.hn k.hc) (.slice A n c)) :
    MX base w1 B { k with H := A, hn := n, hc := c } cx { st with held := l } ∧ ∀ q, Own { k with H := A, hn := n, hc := c } B q → Own k B q ∨ w.heap.size ≤ q := by
  obtain ⟨cs, hb⟩ := h.bt
  have hB : some B ≠ (Value.slice k.H k.hn k.hc).ownBlock := Kd.R_ne h.h hb (by decide)
  have hw : ∀ q, Own { k with H := A, hn := n, hc := c } B q → Own k B q ∨ w.heap.size ≤ q := fun q hq => by
    rcases hq with e | e | e | e | e | e
    · exact .inl (.inl e)
    · exact (New.own hn e).imp (fun h => Or.inr (Or.inl h)) (fun h => h)
    · exact .inl (Or.inr (Or.inr (Or.inl e)))
    · exact .inl (Or.inr (Or.inr (Or.inr (Or.inl e))))
    · exact .inl (Or.inr (Or.inr (Or.inr (Or.inr (Or.inl e)))))
    · exact .inl (Or.inr (Or.inr (Or.inr (Or.inr (Or.inr (e))))))
  have hf : ∀ q, ¬ Own k B q ∧ q < w.heap.size → ¬ Own { k with H := A, hn := n, hc := c } B q := fun q hq hq2 => by
    rcases hw q hq2 with h2 | h2
    · exact hq.1 h2
    · omega
  exact ⟨{ bt := ⟨cs, blk_grown hb hg hB⟩
           bb := h.bb
           h := hr
           p := Kd.R_over' h.p (Kd.R_typed h.h) (by decide) hg
           d := Kd.R_over' h.d (Kd.R_typed h.h) (by decide) hg
           g := Kd.R_over' h.g (Kd.R_typed h.h) (by decide) hg
           s := Kd.R_over' h.s (Kd.R_typed h.h) (by decide) hg
           dg := h.dg
           ds := h.ds
           gs := h.gs
           e := Kd.F_mono (Kd.F_grown (Kd.F_bound h.e) hg (fun q hq => (Own.no hq.1.1).2.1)) (fun q hq => ⟨hf q ⟨hq.1.1, hq.2⟩, hq.1.2⟩)
           u := Kd.F_mono (Kd.F_grown (Kd.F_bound h.u) hg (fun q hq => (Own.no hq.1.1).2.1)) (fun q hq => ⟨hf q ⟨hq.1.1, hq.2⟩, hq.1.2⟩) }, hw⟩
theorem MX.updP {base : Nat} {w w1 : World} {B : Nat} {k : Mk} {cx : Cx} {st : St} {A : Option Addr} {n c : Nat} {l : List Bool} (h : MX base w B k cx st) (hr : Kd.bool.R 4 w1 base (fun _ => True) (.slice A n c) l) (hg : w.grownBy w1 (Value.slice k.P k.pn k.pc).ownBlock) (hn : New w (Value.slice k.P k.pn k.pc) (.slice A n c)) :
    MX base w1 B { k with P := A, pn := n, pc := c } cx { st with put := l } ∧ ∀ q, Own { k with P := A, pn := n, pc := c } B q → Own k B q ∨ w.heap.size ≤ q := by
  obtain ⟨cs, hb⟩ := h.bt
  have hB : some B ≠ (Value.slice k.P k.pn k.pc).ownBlock := Kd.R_ne h.p hb (by decide)
  have hw : ∀ q, Own { k with P := A, pn := n, pc := c } B q → Own k B q ∨ w.heap.size ≤ q := fun q hq => by
    rcases hq with e | e | e | e | e | e
    · exact .inl (.inl e)
    · exact .inl (Or.inr (Or.inl e))
    · exact (New.own hn e).imp (fun h => Or.inr (Or.inr (Or.inl h))) (fun h => h)
    · exact .inl (Or.inr (Or.inr (Or.inr (Or.inl e))))
    · exact .inl (Or.inr (Or.inr (Or.inr (Or.inr (Or.inl e)))))
    · exact .inl (Or.inr (Or.inr (Or.inr (Or.inr (Or.inr (e))))))
  have hf : ∀ q, ¬ Own k B q ∧ q < w.heap.size → ¬ Own { k with P := A, pn := n, pc := c } B q := fun q hq hq2 => by
    rcases hw q hq2 with h2 | h2
    · exact hq.1 h2
    · omega
  exact ⟨{ bt := ⟨cs, blk_grown hb hg hB⟩
           bb := h.bb
           p := hr
           h := Kd.R_over' h.h (Kd.R_typed h.p) (by decide) hg
           d := Kd.R_over' h.d (Kd.R_typed h.p) (by decide) hg
           g := Kd.R_over' h.g (Kd.R_typed h.p) (by decide) hg
           s := Kd.R_over' h.s (Kd.R_typed h.p) (by decide) hg
           dg := h.dg
           ds := h.ds
           gs := h.gs
           e := Kd.F_mono (Kd.F_grown (Kd.F_bound h.e) hg (fun q hq => (Own.no hq.1.1).2.2.1)) (fun q hq => ⟨hf q ⟨hq.1.1, hq.2⟩, hq.1.2⟩)
           u := Kd.F_mono (Kd.F_grown (Kd.F_bound h.u) hg (fun q hq => (Own.no hq.1.1).2.2.1)) (fun q hq => ⟨hf q ⟨hq.1.1, hq.2⟩, hq.1.2⟩) }, hw⟩
theorem MX.updD {base : Nat} {w w1 : World} {B : Nat} {k : Mk} {cx : Cx} {st : St} {A : Option Addr} {n c : Nat} {l : List Int} (h : MX base w B k cx st) (hr : (Kd.int .i64).R 3 w1 base (fun _ => True) (.slice A n c) l) (hg : w.grownBy w1 (Value.slice k.D k.dn k.dc).ownBlock) (hn : New w (Value.slice k.D k.dn k.dc) (.slice A n c)) :
    MX base w1 B { k with D := A, dn := n, dc := c } cx { st with data := l } ∧ ∀ q, Own { k with D := A, dn := n, dc := c } B q → Own k B q ∨ w.heap.size ≤ q := by
  obtain ⟨cs, hb⟩ := h.bt
  have hB : some B ≠ (Value.slice k.D k.dn k.dc).ownBlock := Kd.R_ne h.d hb (by decide)
  have hw : ∀ q, Own { k with D := A, dn := n, dc := c } B q → Own k B q ∨ w.heap.size ≤ q := fun q hq => by
    rcases hq with e | e | e | e | e | e
    · exact .inl (.inl e)
    · exact .inl (Or.inr (Or.inl e))
    · exact .inl (Or.inr (Or.inr (Or.inl e)))
    · exact (New.own hn e).imp (fun h => Or.inr (Or.inr (Or.inr (Or.inl h)))) (fun h => h)
    · exact .inl (Or.inr (Or.inr (Or.inr (Or.inr (Or.inl e)))))
    · exact .inl (Or.inr (Or.inr (Or.inr (Or.inr (Or.inr (e))))))
  have hf : ∀ q, ¬ Own k B q ∧ q < w.heap.size → ¬ Own { k with D := A, dn := n, dc := c } B q := fun q hq hq2 => by
    rcases hw q hq2 with h2 | h2
    · exact hq.1 h2
    · omega
  exact ⟨{ bt := ⟨cs, blk_grown hb hg hB⟩
           bb := h.bb
           d := hr
           h := Kd.R_over' h.h (Kd.R_typed h.d) (by decide) hg
           p := Kd.R_over' h.p (Kd.R_typed h.d) (by decide) hg
           g := Kd.R_grown2 h.g rfl hg (fun q hq e => h.dg q hq e.symm)
           s := Kd.R_grown2 h.s rfl hg (fun q hq e => h.ds q hq e.symm)
           dg := fun q hq e => h.dg q (hn.lt hq (Kd.R_lt h.g q e)) e
           ds := fun q hq e => h.ds q (hn.lt hq (Kd.R_lt h.s q e)) e
           gs := h.gs
           e := Kd.F_mono (Kd.F_grown (Kd.F_bound h.e) hg (fun q hq => (Own.no hq.1.1).2.2.2.1)) (fun q hq => ⟨hf q ⟨hq.1.1, hq.2⟩, hq.1.2⟩)
           u := Kd.F_mono (Kd.F_grown (Kd.F_bound h.u) hg (fun q hq => (Own.no hq.1.1).2.2.2.1)) (fun q hq => ⟨hf q ⟨hq.1.1, hq.2⟩, hq.1.2⟩) }, hw⟩
theorem MX.updG {base : Nat} {w w1 : World} {B : Nat} {k : Mk} {cx : Cx} {st : St} {A : Option Addr} {n c : Nat} {l : List Int} (h : MX base w B k cx st) (hr : (Kd.int .i64).R 3 w1 base (fun _ => True) (.slice A n c) l) (hg : w.grownBy w1 (Value.slice k.G k.gn k.gc).ownBlock) (hn : New w (Value.slice k.G k.gn k.gc) (.slice A n c)) :
    MX base w1 B { k with G := A, gn := n, gc := c } cx { st with gate := l } ∧ ∀ q, Own { k with G := A, gn := n, gc := c } B q → Own k B q ∨ w.heap.size ≤ q := by
  obtain ⟨cs, hb⟩ := h.bt
  have hB : some B ≠ (Value.slice k.G k.gn k.gc).ownBlock := Kd.R_ne h.g hb (by decide)
  have hw : ∀ q, Own { k with G := A, gn := n, gc := c } B q → Own k B q ∨ w.heap.size ≤ q := fun q hq => by
    rcases hq with e | e | e | e | e | e
    · exact .inl (.inl e)
    · exact .inl (Or.inr (Or.inl e))
    · exact .inl (Or.inr (Or.inr (Or.inl e)))
    · exact .inl (Or.inr (Or.inr (Or.inr (Or.inl e))))
    · exact (New.own hn e).imp (fun h => Or.inr (Or.inr (Or.inr (Or.inr (Or.inl h))))) (fun h => h)
    · exact .inl (Or.inr (Or.inr (Or.inr (Or.inr (Or.inr (e))))))
  have hf : ∀ q, ¬ Own k B q ∧ q < w.heap.size → ¬ Own { k with G := A, gn := n, gc := c } B q := fun q hq hq2 => by
    rcases hw q hq2 with h2 | h2
    · exact hq.1 h2
    · omega
  exact ⟨{ bt := ⟨cs, blk_grown hb hg hB⟩
           bb := h.bb
           g := hr
           h := Kd.R_over' h.h (Kd.R_typed h.g) (by decide) hg
           p := Kd.R_over' h.p (Kd.R_typed h.g) (by decide) hg
           d := Kd.R_grown2 h.d rfl hg (fun q hq e => h.dg q e.symm hq)
           s := Kd.R_grown2 h.s rfl hg (fun q hq e => h.gs q hq e.symm)
           dg := fun q hq e => h.dg q hq (hn.lt e (Kd.R_lt h.d q hq))
           ds := h.ds
           gs := fun q hq e => h.gs q (hn.lt hq (Kd.R_lt h.s q e)) e
           e := Kd.F_mono (Kd.F_grown (Kd.F_bound h.e) hg (fun q hq => (Own.no hq.1.1).2.2.2.2.1)) (fun q hq => ⟨hf q ⟨hq.1.1, hq.2⟩, hq.1.2⟩)
           u := Kd.F_mono (Kd.F_grown (Kd.F_bound h.u) hg (fun q hq => (Own.no hq.1.1).2.2.2.2.1)) (fun q hq => ⟨hf q ⟨hq.1.1, hq.2⟩, hq.1.2⟩) }, hw⟩
theorem MX.updS {base : Nat} {w w1 : World} {B : Nat} {k : Mk} {cx : Cx} {st : St} {A : Option Addr} {n c : Nat} {l : List Int} (h : MX base w B k cx st) (hr : (Kd.int .i64).R 3 w1 base (fun _ => True) (.slice A n c) l) (hg : w.grownBy w1 (Value.slice k.S k.sn k.sc).ownBlock) (hn : New w (Value.slice k.S k.sn k.sc) (.slice A n c)) :
    MX base w1 B { k with S := A, sn := n, sc := c } cx { st with saw := l } ∧ ∀ q, Own { k with S := A, sn := n, sc := c } B q → Own k B q ∨ w.heap.size ≤ q := by
  obtain ⟨cs, hb⟩ := h.bt
  have hB : some B ≠ (Value.slice k.S k.sn k.sc).ownBlock := Kd.R_ne h.s hb (by decide)
  have hw : ∀ q, Own { k with S := A, sn := n, sc := c } B q → Own k B q ∨ w.heap.size ≤ q := fun q hq => by
    rcases hq with e | e | e | e | e | e
    · exact .inl (.inl e)
    · exact .inl (Or.inr (Or.inl e))
    · exact .inl (Or.inr (Or.inr (Or.inl e)))
    · exact .inl (Or.inr (Or.inr (Or.inr (Or.inl e))))
    · exact .inl (Or.inr (Or.inr (Or.inr (Or.inr (Or.inl e)))))
    · exact (New.own hn e).imp (fun h => Or.inr (Or.inr (Or.inr (Or.inr (Or.inr h))))) (fun h => h)
  have hf : ∀ q, ¬ Own k B q ∧ q < w.heap.size → ¬ Own { k with S := A, sn := n, sc := c } B q := fun q hq hq2 => by
    rcases hw q hq2 with h2 | h2
    · exact hq.1 h2
    · omega
  exact ⟨{ bt := ⟨cs, blk_grown hb hg hB⟩
           bb := h.bb
           s := hr
           h := Kd.R_over' h.h (Kd.R_typed h.s) (by decide) hg
           p := Kd.R_over' h.p (Kd.R_typed h.s) (by decide) hg
           d := Kd.R_grown2 h.d rfl hg (fun q hq e => h.ds q e.symm hq)
           g := Kd.R_grown2 h.g rfl hg (fun q hq e => h.gs q e.symm hq)
           dg := h.dg
           ds := fun q hq e => h.ds q hq (hn.lt e (Kd.R_lt h.d q hq))
           gs := fun q hq e => h.gs q hq (hn.lt e (Kd.R_lt h.g q hq))
           e := Kd.F_mono (Kd.F_grown (Kd.F_bound h.e) hg (fun q hq => (Own.no hq.1.1).2.2.2.2.2)) (fun q hq => ⟨hf q ⟨hq.1.1, hq.2⟩, hq.1.2⟩)
           u := Kd.F_mono (Kd.F_grown (Kd.F_bound h.u) hg (fun q hq => (Own.no hq.1.1).2.2.2.2.2)) (fun q hq => ⟨hf q ⟨hq.1.1, hq.2⟩, hq.1.2⟩) }, hw⟩
end Go.Proofs.YtnnfcdffnckoiaaDoor.Mo
/- The program's model: what a call on it keeps; the model read out of its rows. -/
set_option linter.unusedVariables false
set_option linter.unusedSimpArgs false
set_option maxRecDepth 100000
namespace Go.Proofs.YtnnfcdffnckoiaaDoor.Mo
open Go.RowKit Go.Proofs.YtnnfcdffnckoiaaDoorW.PrintWords Go.Proofs.YtnnfcdffnckoiaaDoorW.PrintLast Go.Proofs.YtnnfcdffnckoiaaDoorW.PrintMore
/-- What is kept of the worlds: all below w0's size; of w's all that is not the model's own. -/
structure TK (w0 w W : World) (k : Mk) (B : Nat) : Prop where
  b : Below w0.heap.size w0 W
  s : w.heap.size ≤ W.heap.size
  p : ∀ q, q < w.heap.size → ¬ Own k B q → W.heap[q]? = w.heap[q]?
theorem TK.refl {w0 w : World} {k : Mk} {B : Nat} (h : Below w0.heap.size w0 w) : TK w0 w w k B := ⟨h, Nat.le_refl _, fun _ _ _ => rfl⟩
theorem TK.below {w0 w W W' : World} {k : Mk} {B : Nat} (h : TK w0 w W k B) (b : Below W.heap.size W W') : TK w0 w W' k B :=
  ⟨h.b.trans (b.mono h.b.size), Nat.le_trans h.s b.size, fun q hq ho => (b.block q (Nat.lt_of_lt_of_le hq h.s)).trans (h.p q hq ho)⟩
theorem TK.set {w0 w W : World} {k : Mk} {B : Nat} (h : TK w0 w W k B) {g : Nat} (hg : w0.heap.size ≤ g) (ho : Own k B g ∨ w.heap.size ≤ g) (j : Nat) (u : Value) : TK w0 w (W.setCell ⟨g, j, none⟩ u) k B :=
  ⟨h.b.setCell hg u, by simpa [World.setCell] using h.s, fun q hq hn => (Below.heap_setCell W _ u q (by
    show q ≠ g
    intro e
    rw [e] at hq hn
    rcases ho with h1 | h1
    · exact hn h1
    · omega)).trans (h.p q hq hn)⟩
theorem TK.grown {w0 w W W' : World} {k : Mk} {B : Nat} {row : Option Nat} (h : TK w0 w W k B) (hg : W.grownBy W' row) (hb : ∀ q, row = some q → w0.heap.size ≤ q) (ho : ∀ q, row = some q → Own k B q ∨ w.heap.size ≤ q) : TK w0 w W' k B :=
  ⟨h.b.grown hg h.b.size hb, Nat.le_trans h.s hg.size, fun q hq hn => (hg.block q (Nat.lt_of_lt_of_le hq h.s) (fun e => by
    rcases ho q e.symm with h1 | h1
    · exact hn h1
    · omega)).trans (h.p q hq hn)⟩
theorem TK.trans {w0 w W W' : World} {k k' : Mk} {B : Nat} (h : TK w0 w W k B) (h' : TK w0 W W' k' B) (hn : ∀ q, Own k' B q → Own k B q ∨ w.heap.size ≤ q) : TK w0 w W' k B :=
  ⟨h'.b, Nat.le_trans h.s h'.s, fun q hq ho => (h'.p q (Nat.lt_of_lt_of_le hq h.s) (fun h2 => by
    rcases hn q h2 with h3 | h3
    · exact ho h3
    · omega)).trans (h.p q hq ho)⟩
def boxM (k : Mk) (st : St) : Array Value := #[.int .i64 k.vr, .int .i64 k.wd, .int .i64 k.cp, .int .i64 k.pr, .int .u64 k.sa, .slice k.U k.un k.uc, .int .u64 k.s0, .slice k.E k.en k.ec, .int .i64 st.taken, .int .i64 st.granted, .int .i64 st.pre, .slice k.H k.hn k.hc, .slice k.P k.pn k.pc, .slice k.D k.dn k.dc, .slice k.G k.gn k.gc, .slice k.S k.sn k.sc]
theorem held_c {base : Nat} {w : World} {A : Option Addr} {n c : Nat} {l : List Hd} (h : (Kd.raw 4).R 62 w base (fun _ => True) (.slice A n c) (l.map hcl)) : HeldC w A l := by
  intro j hj
  have hlm : j < (l.map hcl).length := by simpa using hj
  obtain ⟨g, cap, hv, _⟩ := Kd.R_form h (by omega)
  injection hv with hA hn hc
  obtain ⟨_, _, h5⟩ := (Kd.R_reads' h).2.2
  obtain ⟨ad, ha, hr⟩ := h5 (by have := (Kd.R_reads' h).1; omega)
  have e1 : (l.map hcl)[j]? = some (hcl l[j]) := by simp [hj]
  obtain ⟨cs, hlen, ⟨rfl, _, _⟩, hcs⟩ := hr j _ e1
  rw [hA] at ha
  injection ha with ha
  subst ha
  have hc : ∀ i u, (hcl l[j])[i]? = some u → w.cell? ⟨g, j * 4 + i, none⟩ = some u := fun i u hu => by
    have h := hcs i u hu
    rw [add_plain] at h
    exact h
  refine ⟨⟨g, 0, none⟩, hA, ?_, ?_, ?_, ?_⟩
  all_goals (rw [add_plain]; first | exact hc 0 _ rfl | exact hc 1 _ rfl | exact hc 2 _ rfl | exact hc 3 _ rfl)
theorem bools_c {base : Nat} {w : World} {A : Option Addr} {n c : Nat} {l : List Bool} (h : Kd.bool.R 4 w base (fun _ => True) (.slice A n c) l) : BoolsC w A l := by
  intro j hj
  obtain ⟨_, _, h5⟩ := (Kd.R_reads' h).2.2
  obtain ⟨ad, ha, hr⟩ := h5 (by have := (Kd.R_reads' h).1; omega)
  obtain ⟨cs, hlen, hK, hcs⟩ := hr j _ (List.getElem?_eq_getElem hj)
  have h6 : cs = [.bool l[j]] := hK
  subst h6
  have h7 := hcs 0 _ rfl
  have hz : Kd.bool.sz = 1 := rfl
  rw [hz, Nat.mul_one, Nat.add_zero] at h7
  exact ⟨ad, ha, h7⟩
theorem ints_c {base : Nat} {w : World} {A : Option Addr} {n c : Nat} {l : List Int} (h : (Kd.int .i64).R 3 w base (fun _ => True) (.slice A n c) l) : n = l.length ∧ (Kd.int .i64).C w A l.length l := by
  obtain ⟨h1, _, h2⟩ := Kd.R_reads' h
  exact ⟨h1, h1 ▸ h2⟩
/-- The model is read out of its rows, where it was read before. -/
theorem MR.of {base : Nat} {w W : World} {B : Nat} {k : Mk} {cx : Cx} {st st' : St} {P D : Option Addr} {pn pc dn dc : Nat} (h : MR w B k cx st) (x : MX base W B { k with P := P, pn := pn, pc := pc, D := D, dn := dn, dc := dc } cx st') (hb : W.heap[B]? = some (.cells (boxM { k with P := P, pn := pn, pc := pc, D := D, dn := dn, dc := dc } st') 100 (0, 0)))
    (wf : Wf cx st') (tb : st'.taken ≤ 100000) (gb : ∀ j, 0 ≤ st'.gate.getD j 0 ∧ st'.gate.getD j 0 ≤ 100000) (rb : 0 ≤ st'.granted ∧ st'.granted ≤ 100000) : MR W B { k with P := P, pn := pn, pc := pc, D := D, dn := dn, dc := dc } cx st' :=
  { blk := hb
    un := h.un, uc := h.uc
    u := by have := Kd.F_now x.u; rw [show ({ k with P := P, pn := pn, pc := pc, D := D, dn := dn, dc := dc } : Mk).un = k.un from rfl] at this; exact this
    en := h.en, ec := h.ec
    e := by have := Kd.F_now x.e; rw [show ({ k with P := P, pn := pn, pc := pc, D := D, dn := dn, dc := dc } : Mk).en = k.en from rfl, h.en] at this; rw [ints_len]; exact this
    hn := h.hn, h := held_c x.h
    pn := (Kd.R_reads' x.p).1, p := bools_c x.p
    dn := (Kd.R_reads' x.d).1, d := (ints_c x.d).2
    gn := h.gn, g := (ints_c x.g).2, sn := h.sn, s := (ints_c x.s).2
    wf := wf, cp := h.cp, pr := h.pr, s0 := h.s0, us := h.us, ct := h.ct, c64 := h.c64, p4 := h.p4, u6 := h.u6, ub := h.ub, ul := h.ul, eb := h.eb, en0 := h.en0, el := h.el
    tb := tb, gb := gb, rb := rb }
/-- The model, whole. -/
structure MM (base : Nat) (w : World) (B : Nat) (k : Mk) (cx : Cx) (st : St) : Prop where
  x : MX base w B k cx st
  r : MR w B k cx st
theorem MM.below {base : Nat} {w w' : World} {B : Nat} {k : Mk} {cx : Cx} {st : St} (h : MM base w B k cx st) (b : Below w.heap.size w w') : MM base w' B k cx st := ⟨h.x.below b, h.r.below b⟩
/-- What a call on the model leaves. -/
def MPost (w0 w : World) (B : Nat) (k : Mk) (cx : Cx) (st' : St) (W : World) : Prop := ∃ k', MM w0.heap.size W B k' cx st' ∧ TK w0 w W k B ∧ ∀ q, Own k' B q → Own k B q ∨ w.heap.size ≤ q
theorem MPost.same {w0 w W : World} {B : Nat} {k : Mk} {cx : Cx} {st : St} (h : MM w0.heap.size w B k cx st) (b : Below w.heap.size w W) (h0 : Below w0.heap.size w0 w) : MPost w0 w B k cx st W := ⟨k, h.below b, (TK.refl h0).below b, fun _ h => .inl h⟩
theorem own_B (k : Mk) (B : Nat) : Own k B B := .inl rfl
theorem own_H {k : Mk} {B q : Nat} (h : (Value.slice k.H k.hn k.hc).ownBlock = some q) : Own k B q := .inr (.inl h.symm)
theorem own_P {k : Mk} {B q : Nat} (h : (Value.slice k.P k.pn k.pc).ownBlock = some q) : Own k B q := .inr (.inr (.inl h.symm))
theorem own_D {k : Mk} {B q : Nat} (h : (Value.slice k.D k.dn k.dc).ownBlock = some q) : Own k B q := .inr (.inr (.inr (.inl h.symm)))
theorem own_G {k : Mk} {B q : Nat} (h : (Value.slice k.G k.gn k.gc).ownBlock = some q) : Own k B q := .inr (.inr (.inr (.inr (.inl h.symm))))
theorem own_S {k : Mk} {B q : Nat} (h : (Value.slice k.S k.sn k.sc).ownBlock = some q) : Own k B q := .inr (.inr (.inr (.inr (.inr h.symm))))
end Go.Proofs.YtnnfcdffnckoiaaDoor.Mo
/- The program's model: free and seen. -/
set_option linter.unusedVariables false
set_option linter.unusedSimpArgs false
set_option maxRecDepth 100000
namespace Go.Proofs.YtnnfcdffnckoiaaDoor.Mo
open Go.RowKit Go.Proofs.YtnnfcdffnckoiaaDoorW.PrintWords Go.Proofs.YtnnfcdffnckoiaaDoorW.PrintLast Go.Proofs.YtnnfcdffnckoiaaDoorW.PrintMore
/-- What a call on the model answers and leaves. -/
structure WPost (w0 w : World) (B : Nat) (k : Mk) (cx : Cx) (st : St) (C : Int) (S : St) (r : Ending) (W : World) : Prop where
  v : r = .returned (.int .i64 C)
  m : MPost w0 w B k cx (if C = 0 then S else st) W
structure Good (cx : Cx) (st : St) : Prop where
  wf : Wf cx st
  tb : st.taken ≤ 100000
  gb : ∀ j, 0 ≤ st.gate.getD j 0 ∧ st.gate.getD j 0 ≤ 100000
  rb : 0 ≤ st.granted ∧ st.granted ≤ 100000
theorem MR.same {base : Nat} {w W : World} {B : Nat} {k : Mk} {cx : Cx} {st st' : St} (h : MR w B k cx st) (x : MX base W B k cx st') (hb : W.heap[B]? = some (.cells (boxM k st') 100 (0, 0))) (g : Good cx st') : MR W B k cx st' :=
  MR.of (P := k.P) (D := k.D) (pn := k.pn) (pc := k.pc) (dn := k.dn) (dc := k.dc) h x hb g.wf g.tb g.gb g.rb
theorem MM.formG {base : Nat} {w : World} {B : Nat} {k : Mk} {cx : Cx} {st : St} (h : MM base w B k cx st) (j : Nat) (hj : j < cx.up.length) : ∃ q, k.G = some ⟨q, 0, none⟩ ∧ base ≤ q ∧ w.cell? ⟨q, j, none⟩ = some (.int .i64 (st.gate.getD j 0)) ∧ w.frozen? ⟨q, j, none⟩ = false := by
  have hl : j < st.gate.length := by rw [h.r.wf.lg]; exact hj
  obtain ⟨q, cap, hv, hq, _⟩ := Kd.R_form h.x.g (by omega)
  injection hv with hA hn hc
  have hx := h.x.g
  rw [hA] at hx
  have hn2 : k.gn = st.gate.length := hn
  have h3 := Kd.R_celln 0 hx (j : Int) (by omega) (by rw [hn2]; omega)
  rw [Int.toNat_natCast] at h3
  refine ⟨q, hA, hq, ?_, h3.2⟩
  rw [h3.1]
  simp [rdOf, hl]
theorem MM.putG {w0 w : World} {B : Nat} {k : Mk} {cx : Cx} {st : St} (h : MM w0.heap.size w B k cx st) (hb : Below w0.heap.size w0 w) {q : Nat} (eq : k.G = some ⟨q, 0, none⟩) (j : Nat) (v : Int) (hg : Good cx { st with gate := st.gate.set j v }) :
    MM w0.heap.size (w.setCell ⟨q, j, none⟩ (.int .i64 v)) B k cx { st with gate := st.gate.set j v } ∧ TK w0 w (w.setCell ⟨q, j, none⟩ (.int .i64 v)) k B := by
  have hx := h.x.g
  rw [eq] at hx
  have hp := Kd.R_putg hx (j : Int) v
  rw [Int.toNat_natCast] at hp
  have hown : (Value.slice k.G k.gn k.gc).ownBlock = some q := by rw [eq]; rfl
  have hu := MX.updG h.x hp.1 (by rw [hown]; exact hp.2) (.inl (by rw [hown]; rfl))
  have e2 : ({ k with G := some ⟨q, 0, none⟩, gn := k.gn, gc := k.gc } : Mk) = k := by rw [← eq]
  rw [e2] at hu
  have hne := Kd.R_ne h.x.g h.r.blk (by decide)
  rw [hown] at hne
  exact ⟨⟨hu.1, h.r.same hu.1 (blk_far h.r.blk (p := ⟨q, j, none⟩) (fun e => hne (by rw [e])) _) hg⟩, (TK.refl hb).set (Kd.R_base h.x.g q hown) (.inl (own_G hown)) j _⟩
theorem MM.formS {base : Nat} {w : World} {B : Nat} {k : Mk} {cx : Cx} {st : St} (h : MM base w B k cx st) (j : Nat) (hj : j < cx.up.length) : ∃ q, k.S = some ⟨q, 0, none⟩ ∧ base ≤ q ∧ w.cell? ⟨q, j, none⟩ = some (.int .i64 (st.saw.getD j 0)) ∧ w.frozen? ⟨q, j, none⟩ = false := by
  have hl : j < st.saw.length := by rw [h.r.wf.ls]; exact hj
  obtain ⟨q, cap, hv, hq, _⟩ := Kd.R_form h.x.s (by omega)
  injection hv with hA hn hc
  have hx := h.x.s
  rw [hA] at hx
  have hn2 : k.sn = st.saw.length := hn
  have h3 := Kd.R_celln 0 hx (j : Int) (by omega) (by rw [hn2]; omega)
  rw [Int.toNat_natCast] at h3
  refine ⟨q, hA, hq, ?_, h3.2⟩
  rw [h3.1]
  simp [rdOf, hl]
theorem MM.putS {w0 w : World} {B : Nat} {k : Mk} {cx : Cx} {st : St} (h : MM w0.heap.size w B k cx st) (hb : Below w0.heap.size w0 w) {q : Nat} (eq : k.S = some ⟨q, 0, none⟩) (j : Nat) (v : Int) (hg : Good cx { st with saw := st.saw.set j v }) :
    MM w0.heap.size (w.setCell ⟨q, j, none⟩ (.int .i64 v)) B k cx { st with saw := st.saw.set j v } ∧ TK w0 w (w.setCell ⟨q, j, none⟩ (.int .i64 v)) k B := by
  have hx := h.x.s
  rw [eq] at hx
  have hp := Kd.R_putg hx (j : Int) v
  rw [Int.toNat_natCast] at hp
  have hown : (Value.slice k.S k.sn k.sc).ownBlock = some q := by rw [eq]; rfl
  have hu := MX.updS h.x hp.1 (by rw [hown]; exact hp.2) (.inl (by rw [hown]; rfl))
  have e2 : ({ k with S := some ⟨q, 0, none⟩, sn := k.sn, sc := k.sc } : Mk) = k := by rw [← eq]
  rw [e2] at hu
  have hne := Kd.R_ne h.x.s h.r.blk (by decide)
  rw [hown] at hne
  exact ⟨⟨hu.1, h.r.same hu.1 (blk_far h.r.blk (p := ⟨q, j, none⟩) (fun e => hne (by rw [e])) _) hg⟩, (TK.refl hb).set (Kd.R_base h.x.s q hown) (.inl (own_S hown)) j _⟩
theorem below_low {w0 w W : World} (b : Below w.heap.size w W) (h : Below w0.heap.size w0 w) : Below w0.heap.size w0 W := h.trans (b.mono h.size)
set_option maxHeartbeats 8000000 in
theorem pfree (w0 w : World) (h0 : Below w0.heap.size w0 w) (B : Nat) (k : Mk) (cx : Cx) (st : St) (h : MM w0.heap.size w B k cx st) (e : Ev) (Bd : Option Addr) (c : Nat) (ht : I64 e.thread) (hg : freeC cx st e = 0 → Good cx (freeS cx st e)) :
    Calls Tryd.prog 66 #[.pointer (some ⟨B, 0, none⟩), .agg #[.int .i64 e.kind, .int .i64 e.thread, .int .i64 e.op, .int .i64 e.n, .int .u64 e.pos, .int .i64 e.code, .slice Bd e.data.length c]] w fun r W => WPost w0 w B k cx st (freeC cx st e) (freeS cx st e) r W := by
  have H0 := Aside.mk h0
  have HM0 := Aside.mk h
  have HB := Aside.mk (below_alloc (Below.refl w.heap.size w) (.cells #[.int .i64 e.kind, .int .i64 e.thread, .int .i64 e.op, .int .i64 e.n, .int .u64 e.pos, .int .i64 e.code, .slice Bd e.data.length c] 44))
  have HY := Aside.mk (heap_alloc_new w (.cells #[.int .i64 e.kind, .int .i64 e.thread, .int .i64 e.op, .int .i64 e.n, .int .u64 e.pos, .int .i64 e.code, .slice Bd e.data.length c] 44))
  have HT := Aside.mk ht
  have HG := Aside.mk hg
  clear h0 h ht hg
  go_enter Tryd.func66, Tryd.ntmps66
  go_upto_region 1 with (fail)
  generalize w.alloc (.cells #[.int .i64 e.kind, .int .i64 e.thread, .int .i64 e.op, .int .i64 e.n, .int .u64 e.pos, .int .i64 e.code, .slice Bd e.data.length c] 44) = w2 at *
  obtain ⟨y0, y1, y2, y3, y4, y5, y6⟩ := cell7 HY.out
  go_wp2_with fail
  refine (pconsumer _ B k cx st (HM0.out.r.below HB.out) e.thread HT.out).mono ?_
  rintro r w3 ⟨rfl, hb⟩
  replace HY := Aside.mk (blk_below HY.out hb)
  replace HB := Aside.mk (HB.out.trans (hb.mono HB.out.size))
  clear hb y0 y1 y2 y3 y4 y5 y6
  by_cases hc : isCons cx e.thread
  · rw [decide_eq_true hc, if_pos hc]
    have HCC := Aside.mk hc
    have HKC := Aside.mk (show cons cx e.thread < cx.up.length by unfold isCons at hc; unfold cons; omega)
    generalize hkc : cons cx e.thread = kc at *
    clear hc
    obtain ⟨y0, y1, y2, y3, y4, y5, y6⟩ := cell7 HY.out
    go_wp2_with fail
    refine (pcount _ B k cx st (HM0.out.r.below HB.out) e.pos).mono ?_
    rintro r w4 ⟨rfl, hb⟩
    replace HB := Aside.mk (HB.out.trans (hb.mono HB.out.size))
    clear hb y0 y1 y2 y3 y4 y5 y6 HY
    have HM := Aside.mk (HM0.out.below HB.out)
    obtain ⟨gq, eG, hG1, g0, gf⟩ := HM.out.formG kc HKC.out
    obtain ⟨sq, eS, hS1, s0, sf⟩ := HM.out.formS kc HKC.out
    obtain ⟨c0, c1, c2, c3, c4, c5, c6, c7, c8, c9, c10, c11, c12, c13, c14, c15⟩ := cell16 HM.out.r.blk
    rw [eG, HM.out.r.gn] at c14
    rw [eS, HM.out.r.sn] at c15
    have i1 : decide ((kc : Int) < (cx.up.length : Int)) = true := decide_eq_true (by have := HKC.out; omega)
    have i2 : (kc : Int) < (cx.up.length : Int) := by have := HKC.out; omega
    have i3 : decide (kc < cx.up.length) = true := decide_eq_true HKC.out
    have i4 : kc < cx.up.length := HKC.out
    have HC := Aside.mk (show freeC cx st e = if cx.cnt st.taken e.pos ≤ st.gate.getD kc 0 ∨ cx.cnt st.taken e.pos > st.saw.getD kc 0 then 18 else 0 from by
      unfold freeC
      rw [if_neg (fun h => h HCC.out)]
      simp only [hkc])
    generalize hn : cx.cnt st.taken e.pos = n at *
    generalize hgg : st.gate.getD kc 0 = gg at *
    generalize hss : st.saw.getD kc 0 = ss at *
    by_cases h1 : n ≤ gg
    · have t1 : decide (n ≤ gg) = true := decide_eq_true h1
      rw [if_pos (.inl h1)] at HC
      clear h1 hkc hgg hss eG eS hn
      go_wp2
      go_ret
      exact ⟨by rw [HC.out]; rfl, by rw [HC.out, if_neg (by decide)]; exact .same HM0.out HB.out H0.out⟩
    have t1 : decide (n ≤ gg) = false := decide_eq_false h1
    by_cases h2 : ss < n
    · have t2 : decide (ss < n) = true := decide_eq_true h2
      rw [if_pos (.inr h2)] at HC
      clear h1 h2 hkc hgg hss eG eS hn
      go_wp2
      go_ret
      exact ⟨by rw [HC.out]; rfl, by rw [HC.out, if_neg (by decide)]; exact .same HM0.out HB.out H0.out⟩
    have t2 : decide (ss < n) = false := decide_eq_false h2
    rw [if_neg (by omega)] at HC
    have HPUT := Aside.mk (HM.out.putG (below_low HB.out H0.out) eG kc n (by have h := HG.out HC.out; unfold freeS at h; rw [hkc, hn] at h; exact h))
    have HFS := Aside.mk (show freeS cx st e = { st with gate := st.gate.set kc n } from by unfold freeS; rw [hkc, hn])
    clear h1 h2 hkc hgg hss eG eS hn
    go_wp2
    go_ret
    exact ⟨by rw [HC.out]; rfl, by
      rw [HC.out, if_pos rfl, HFS.out]
      exact ⟨k, HPUT.out.1, ((TK.refl H0.out).below HB.out).trans HPUT.out.2 (fun q hq => .inl hq), fun q hq => .inl hq⟩⟩
  · rw [decide_eq_false hc, if_neg hc]
    have HC := Aside.mk (show freeC cx st e = 11 from by unfold freeC; rw [if_pos hc])
    clear hc
    go_wp2
    go_ret
    exact ⟨by rw [HC.out]; rfl, by rw [HC.out, if_neg (by decide)]; exact .same HM0.out HB.out H0.out⟩
set_option maxHeartbeats 8000000 in
theorem pseen (w0 w : World) (h0 : Below w0.heap.size w0 w) (B : Nat) (k : Mk) (cx : Cx) (st : St) (h : MM w0.heap.size w B k cx st) (e : Ev) (Bd : Option Addr) (c : Nat) (ht : I64 e.thread) (hg : seenC cx st e = 0 → Good cx (seenS cx st e)) :
    Calls Tryd.prog 65 #[.pointer (some ⟨B, 0, none⟩), .agg #[.int .i64 e.kind, .int .i64 e.thread, .int .i64 e.op, .int .i64 e.n, .int .u64 e.pos, .int .i64 e.code, .slice Bd e.data.length c]] w fun r W => WPost w0 w B k cx st (seenC cx st e) (seenS cx st e) r W := by
  have H0 := Aside.mk h0
  have HM0 := Aside.mk h
  have HB := Aside.mk (below_alloc (Below.refl w.heap.size w) (.cells #[.int .i64 e.kind, .int .i64 e.thread, .int .i64 e.op, .int .i64 e.n, .int .u64 e.pos, .int .i64 e.code, .slice Bd e.data.length c] 44))
  have HY := Aside.mk (heap_alloc_new w (.cells #[.int .i64 e.kind, .int .i64 e.thread, .int .i64 e.op, .int .i64 e.n, .int .u64 e.pos, .int .i64 e.code, .slice Bd e.data.length c] 44))
  have HT := Aside.mk ht
  have HG := Aside.mk hg
  clear h0 h ht hg
  go_enter Tryd.func65, Tryd.ntmps65
  go_upto_region 1 with (fail)
  generalize w.alloc (.cells #[.int .i64 e.kind, .int .i64 e.thread, .int .i64 e.op, .int .i64 e.n, .int .u64 e.pos, .int .i64 e.code, .slice Bd e.data.length c] 44) = w2 at *
  obtain ⟨y0, y1, y2, y3, y4, y5, y6⟩ := cell7 HY.out
  go_wp2_with fail
  refine (pconsumer _ B k cx st (HM0.out.r.below HB.out) e.thread HT.out).mono ?_
  rintro r w3 ⟨rfl, hb⟩
  replace HY := Aside.mk (blk_below HY.out hb)
  replace HB := Aside.mk (HB.out.trans (hb.mono HB.out.size))
  clear hb y0 y1 y2 y3 y4 y5 y6
  by_cases hc : isCons cx e.thread
  · rw [decide_eq_true hc, if_pos hc]
    have HCC := Aside.mk hc
    have HKC := Aside.mk (show cons cx e.thread < cx.up.length by unfold isCons at hc; unfold cons; omega)
    generalize hkc : cons cx e.thread = kc at *
    clear hc
    obtain ⟨y0, y1, y2, y3, y4, y5, y6⟩ := cell7 HY.out
    go_wp2_with fail
    refine (pcount _ B k cx st (HM0.out.r.below HB.out) e.pos).mono ?_
    rintro r w4 ⟨rfl, hb⟩
    replace HB := Aside.mk (HB.out.trans (hb.mono HB.out.size))
    clear hb y0 y1 y2 y3 y4 y5 y6 HY
    have HM := Aside.mk (HM0.out.below HB.out)
    obtain ⟨gq, eG, hG1, g0, gf⟩ := HM.out.formG kc HKC.out
    obtain ⟨sq, eS, hS1, s0, sf⟩ := HM.out.formS kc HKC.out
    obtain ⟨c0, c1, c2, c3, c4, c5, c6, c7, c8, c9, c10, c11, c12, c13, c14, c15⟩ := cell16 HM.out.r.blk
    rw [eG, HM.out.r.gn] at c14
    rw [eS, HM.out.r.sn] at c15
    have i1 : decide ((kc : Int) < (cx.up.length : Int)) = true := decide_eq_true (by have := HKC.out; omega)
    have i2 : (kc : Int) < (cx.up.length : Int) := by have := HKC.out; omega
    have i3 : decide (kc < cx.up.length) = true := decide_eq_true HKC.out
    have i4 : kc < cx.up.length := HKC.out
    have HC := Aside.mk (show seenC cx st e = if cx.cnt st.taken e.pos < st.saw.getD kc 0 then 18 else if cx.cnt st.taken e.pos > limit cx st kc then 17 else 0 from by
      unfold seenC
      rw [if_neg (fun h => h HCC.out)]
      simp only [hkc])
    generalize hn : cx.cnt st.taken e.pos = n at *
    generalize hss : st.saw.getD kc 0 = ss at *
    have HL := Aside.mk (plimit_ _ B k cx st HM.out.r kc HKC.out)
    generalize hli : limit cx st kc = li at *
    by_cases h1 : n < ss
    · have t1 : decide (n < ss) = true := decide_eq_true h1
      rw [if_pos h1] at HC
      clear h1 hkc hss eG eS hn hli
      go_wp2
      go_ret
      exact ⟨by rw [HC.out]; rfl, by rw [HC.out, if_neg (by decide)]; exact .same HM0.out HB.out H0.out⟩
    have t1 : decide (n < ss) = false := decide_eq_false h1
    rw [if_neg h1] at HC
    clear gf g0 c14
    go_wp2_with fail
    refine HL.out.mono ?_
    rintro r w5 ⟨rfl, hb⟩
    replace HB := Aside.mk (HB.out.trans (hb.mono HB.out.size))
    replace HM := Aside.mk (HM.out.below hb)
    clear hb HL s0 sf eG eS c0 c1 c2 c3 c4 c5 c6 c7 c8 c9 c10 c11 c12 c13 c15
    by_cases h2 : li < n
    · have t2 : decide (li < n) = true := decide_eq_true h2
      rw [if_pos h2] at HC
      clear h1 h2 hkc hss hn hli
      go_wp2
      go_ret
      exact ⟨by rw [HC.out]; rfl, by rw [HC.out, if_neg (by decide)]; exact .same HM0.out HB.out H0.out⟩
    have t2 : decide (li < n) = false := decide_eq_false h2
    rw [if_neg h2] at HC
    obtain ⟨sq, eS, hS1, s0, sf⟩ := HM.out.formS kc HKC.out
    obtain ⟨c0, c1, c2, c3, c4, c5, c6, c7, c8, c9, c10, c11, c12, c13, c14, c15⟩ := cell16 HM.out.r.blk
    rw [eS, HM.out.r.sn] at c15
    have HPUT := Aside.mk (HM.out.putS (below_low HB.out H0.out) eS kc n (by have h := HG.out HC.out; unfold seenS at h; rw [hkc, hn] at h; exact h))
    have HFS := Aside.mk (show seenS cx st e = { st with saw := st.saw.set kc n } from by unfold seenS; rw [hkc, hn])
    clear h1 h2 hkc hss eS hn hli
    go_wp2
    go_ret
    exact ⟨by rw [HC.out]; rfl, by
      rw [HC.out, if_pos rfl, HFS.out]
      exact ⟨k, HPUT.out.1, ((TK.refl H0.out).below HB.out).trans HPUT.out.2 (fun q hq => .inl hq), fun q hq => .inl hq⟩⟩
  · rw [decide_eq_false hc, if_neg hc]
    have HC := Aside.mk (show seenC cx st e = 11 from by unfold seenC; rw [if_pos hc])
    clear hc
    go_wp2
    go_ret
    exact ⟨by rw [HC.out]; rfl, by rw [HC.out, if_neg (by decide)]; exact .same HM0.out HB.out H0.out⟩
end Go.Proofs.YtnnfcdffnckoiaaDoor.Mo
