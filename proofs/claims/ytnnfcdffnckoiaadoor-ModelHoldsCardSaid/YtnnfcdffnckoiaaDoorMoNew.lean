/- graph.Ends, whose row is its own. -/
import Derived.Test.YtnnfcdffnckoiaaDoorGEndss
import Derived.Test.YtnnfcdffnckoiaaDoorMoPut
import Derived.Test.YtnnfcdffnckoiaaDoorConfP
import Derived.Test.YtnnfcdffnckoiaaDoorWFour
import Derived.Test.YtnnfcdffnckoiaaDoorWFoot
import Derived.Test.YtnnfcdffnckoiaaDoorQCfx3
import Derived.OwnWalk
import Derived.DataElems
set_option linter.unusedVariables false
set_option linter.unusedSimpArgs false
set_option maxRecDepth 100000
namespace Go.Proofs.YtnnfcdffnckoiaaDoor.Graph
open Go.RowKit Go.Proofs.YtnnfcdffnckoiaaDoorW.PrintWords Go.Proofs.YtnnfcdffnckoiaaDoorW.PrintLast
theorem list_callsR (m : Nat) (hm : m < 64) (w : World) (hT : Tabled w) :
    Calls Tryd.prog 91 #[.int .u64 m] w fun e w' => ∃ A c, e = .returned (.slice A (memI m).length c) ∧ (Kd.int .i64).R 3 w' w.heap.size (fun _ => True) (.slice A (memI m).length c) (memI m) ∧ Below w.heap.size w w' :=
  (callsIn_wide.1 (list_in 3 m (by omega) hm w hT)).mono fun e w' ⟨v, he, hrow, hb⟩ => by
    have hR : Kd.R (Kd.int .i64) 3 w' w.heap.size (fun _ => True) v (memI m) := ⟨fun _ _ => trivial, by
      have h1 := Kd.reps_scalar (enc := Value.int .i64) (memI m)
      refine ⟨_, ?_, h1⟩
      have e1 : encs (Value.int .i64) (memI m) = (memF m 0).map fun (x : Nat) => Value.int .i64 (x : Int) := by
        simp [encs, memI]
      rw [e1]
      have e2 : (memI m).length = (memF m 0).length := by simp [memI]
      rw [e2]
      exact hrow⟩
    obtain ⟨A, c, e3⟩ := Kd.R_slice hR
    subst e3
    exact ⟨A, c, he, hR, hb⟩
set_option maxHeartbeats 4000000 in
theorem ends_okR {w : World} {A : Option Addr} {C : Nat} {up : List (List Int)} (h : Gv w A C up) (hc : checkG up = 0) (hT : Tabled w) :
    Calls Tryd.prog 44 #[.slice A up.length C] w fun e w' => ∃ A' c', e = .returned (.slice A' (endsI up).length c') ∧ (Kd.int .i64).R 3 w' w.heap.size (fun _ => True) (.slice A' (endsI up).length c') (endsI up) ∧ Below w.heap.size w w' := by
  have h1 : (checkG up != 0) = false := by simpa using hc
  have HF := Aside.mk (fine_of hc)
  have H := Aside.mk (check8 h)
  have HG := Aside.mk h
  have HT := Aside.mk hT
  have HFU := Aside.mk (full up.length HF.out.n6)
  clear hc h hT
  go_enter Tryd.func44, Tryd.ntmps44
  go_wp2_with (first | (go_at_call 87; refine H.out.mono ?_; rintro e w' ⟨rfl, hb⟩; have HB0 := Aside.mk hb; clear hb) | (go_at_call 89; refine (HFU.out _).mono ?_; rintro e w2 ⟨rfl, rfl⟩))
  go_loopw [3, 16] (fun v x wr => ∃ i m : Nat, i ≤ up.length ∧ x = .int .i64 i ∧ v = .int .u64 m ∧ Aside (FreeAt up i [] m) ∧ Aside (Below w.heap.size w wr)) (fun _ x _ => up.length - (intOf x).toNat)
  case atStart => exact ⟨0, 2 ^ up.length - 1, Nat.zero_le _, rfl, rfl, ⟨by
    obtain ⟨h1, h2⟩ := free_start up.length (by have := HF.out.n6; omega)
    exact ⟨h1, fun x hx => by rw [h2 x hx]; simp [namedB]⟩⟩, HB0⟩
  case round =>
    obtain ⟨i, m, hi, rfl, rfl, HFR, HB⟩ := hrel
    clear h1
    by_cases hlt : i < up.length
    · have t1 : decide ((i : Int) < (up.length : Int)) = true := decide_eq_true (by omega)
      have t2 : decide (i < up.length) = true := decide_eq_true hlt
      have t3 : (i : Int) < (up.length : Int) := by omega
      have HI := Aside.mk hlt
      obtain ⟨ad, A0, c0, rfl, hrow, hl0, hnum⟩ := row_at HG.out.rd i hlt
      have hroww : wr.cell? (ad.add i) = some (.slice A0 (up.getD i []).length c0) := (HB.out.cell (World.block_lt_of_cell? _ _ hrow)).trans hrow
      have HAT := Aside.mk (fun j (hj : j < (up.getD i []).length) => rowAt HF.out hlt hj)
      obtain ⟨l, hL⟩ : ∃ l, up.getD i [] = l := ⟨_, rfl⟩
      have HL20 := Aside.mk (show l.length ≤ 20 by rw [← hL]; exact HG.out.sm.at i)
      rw [hL] at hroww hnum HAT
      have HLe := Aside.mk hL
      have HN := Aside.mk (Kd.C_below hnum HB.out)
      clear hrow hl0 hnum hL hi hlt
      have ew := i1 (show i < 4611686018427387904 by have := HI.out; have := HF.out.n6; omega)
      go_wp2_with fail
      clear hroww t1 t2 t3
      go_loopw [3, 22] (fun v x wr2 => ∃ j m : Nat, j ≤ l.length ∧ x = .int .i64 j ∧ v = .int .u64 m ∧ Aside (FreeAt up i (l.take j) m) ∧ wr2 = wr) (fun _ x _ => l.length - (intOf x).toNat)
      case atStart => exact ⟨0, m, Nat.zero_le _, rfl, rfl, HFR, rfl⟩
      case round =>
        clear HFR
        obtain ⟨j, m, hj, rfl, rfl, HFR, rfl⟩ := hrel
        by_cases hlt : j < l.length
        · have t1 : decide ((j : Int) < (l.length : Int)) = true := decide_eq_true (by omega)
          have t2 : decide (j < l.length) = true := decide_eq_true hlt
          have t3 : (j : Int) < (l.length : Int) := by omega
          have HJ := Aside.mk hlt
          obtain ⟨u, hu, hul, hue⟩ := HAT.out j hlt
          obtain ⟨a0, rfl, hx⟩ := num_at HN.out j hlt hlt
          rw [hu] at hx
          have HU6 := Aside.mk (show u < 6 by have := HF.out.n6; omega)
          have HFN := Aside.mk (show FreeAt up i (l.take (j + 1)) (clr1 m u) by rw [List.take_succ_eq_append_getElem hlt, hu]; exact HFR.out.num HU6.out)
          have ej := i1 (show j < 4611686018427387904 by have := HL20.out; omega)
          clear hj hlt hu hul hue
          go_wp2_with (go_at_call 90; refine (without m u _ HFR.out.1 HU6.out).mono ?_; rintro e w3 ⟨rfl, rfl⟩)
          go_roundw
          case rel => exact ⟨j + 1, _, HJ.out, by first | rfl | simp, rfl, HFN, by trivial⟩
          case measure =>
            have := HJ.out
            have e9 : ((j : Int) + 1).toNat = j + 1 := by omega
            simp only [intOf, e9, Int.toNat_natCast]
            omega
        · have t1 : decide ((j : Int) < (l.length : Int)) = false := decide_eq_false (by omega)
          have t2 : decide (j < l.length) = false := decide_eq_false hlt
          obtain rfl : j = l.length := by omega
          have HFN := Aside.mk (show FreeAt up (i + 1) [] m from FreeAt.row (by have := HFR.out; rw [List.take_length, ← HLe.out] at this; exact this))
          clear hlt hj HFR
          go_wp2
          go_roundw
          case rel => exact ⟨i + 1, m, HI.out, by first | rfl | simp, rfl, HFN, HB⟩
          case measure =>
            have := HI.out
            have e9 : ((i : Int) + 1).toNat = i + 1 := by omega
            simp only [intOf, e9, Int.toNat_natCast]
            omega
    · have t1 : decide ((i : Int) < (up.length : Int)) = false := decide_eq_false (by omega)
      have t2 : decide (i < up.length) = false := decide_eq_false hlt
      obtain rfl : i = up.length := by omega
      clear hlt hi
      go_wp2_with (go_at_call 91; refine (list_callsR m HFR.out.1 _ (HT.out.below HB.out)).mono ?_; rintro e w5 ⟨A5, c5, rfl, h51, hb5⟩; have HB5 := Aside.mk (HB.out.trans (hb5.mono HB.out.size)); have H51 := Aside.mk (Kd.R_lower h51 HB.out.size); clear h51 hb5)
      go_ret
      have e := ends_mem HF.out.n6 HFR.out
      rw [← e]
      exact ⟨A5, c5, rfl, H51.out, HB5.out⟩
end Go.Proofs.YtnnfcdffnckoiaaDoor.Graph
/- What a configuration that may be makes: plain laws; conf.Start and graph.Copy walked. -/
set_option linter.unusedVariables false
set_option linter.unusedSimpArgs false
set_option maxRecDepth 100000
namespace Go.Proofs.YtnnfcdffnckoiaaDoor.Graph
open Go.RowKit
/-- How many are below one. -/
def under (up : List (List Int)) (x : Nat) : Nat := (List.range 6).countP (fun y => reachB up y x)
theorem under_lt {up : List (List Int)} (h : Fine up) {i x : Nat} (e : edge up i x = true) : under up i < under up x := by
  have hg := h.good
  refine countP_lt _ (fun y hy => (reachB_iff hg).2 (((reachB_iff hg).1 hy).trans (.one e))) i (List.mem_range.2 ?_) (h.acyc i) ((reachB_iff hg).2 (.one e))
  have := (edge_lt hg e).1; have := h.n6; omega
theorem some_end {up : List (List Int)} (h : Fine up) : ∀ (k x : Nat), under up x ≤ k → x < up.length → ∃ r, r < up.length ∧ namedB up up.length r = false := by
  intro k
  induction k with
  | zero =>
    intro x hk hx
    refine ⟨x, hx, ?_⟩
    cases hn : namedB up up.length x with
    | false => rfl
    | true =>
      obtain ⟨i, _, hi⟩ := List.any_eq_true.1 hn
      have := under_lt h hi; omega
  | succ k ih =>
    intro x hk hx
    cases hn : namedB up up.length x with
    | false => exact ⟨x, hx, hn⟩
    | true =>
      obtain ⟨i, _, hi⟩ := List.any_eq_true.1 hn
      exact ih i (by have := under_lt h hi; omega) (edge_lt h.good hi).1
theorem ends_some {up : List (List Int)} (h : Fine up) : endsI up ≠ [] := by
  intro e
  obtain ⟨r, h1, h2⟩ := some_end h (under up 0) 0 (Nat.le_refl _) h.n1
  have := pick_nil.1 e r h1
  rw [h2] at this; simp at this
end Go.Proofs.YtnnfcdffnckoiaaDoor.Graph
namespace Go.Proofs.YtnnfcdffnckoiaaDoor.Mo
open Go.RowKit Go.Proofs.YtnnfcdffnckoiaaDoorW.PrintWords Go.Proofs.YtnnfcdffnckoiaaDoorW.PrintLast Go.Proofs.YtnnfcdffnckoiaaDoorW.PrintMore
open Graph (checkG Fine Gv endsI ref_ends fine_of ends_some pick pick_mem okAll okN Tabled ends_okR)
open QGc (checkC boundB rd_L1)
open Graph (rightB)
/-- A configuration, as the model takes it. -/
def cxOf (wd cp pr sa : Int) (up : List (List Int)) : Cx := ⟨cp, pr.toNat, up.map (fun l => l.map Int.toNat), (endsI up).map Int.toNat, fun t p => cntW wd sa t p, 0⟩
structure CxOk (v wd cp pr sa : Int) (up : List (List Int)) (cx : Cx) : Prop where
  cap : cp = cx.cap
  prod : pr = cx.prod
  uq : up = cx.up.map ints
  ends : endsI up = ints cx.ends
  ct : ∀ t p, cx.cnt t p = cntW wd sa t p
  c64 : 1 ≤ cx.cap ∧ cx.cap ≤ 64
  p4 : 1 ≤ cx.prod ∧ cx.prod ≤ 4
  u6 : 1 ≤ cx.up.length ∧ cx.up.length ≤ 6
  ub : ∀ l ∈ cx.up, ∀ c ∈ l, c < cx.up.length
  ul : ∀ l ∈ cx.up, l.length ≤ 20
  eb : ∀ c ∈ cx.ends, c < cx.up.length
  en : cx.ends ≠ []
  el : cx.ends.length ≤ 6
  ck : checkG up = 0
  wd : wd = 32 ∨ wd = 64
theorem CxOk.lim {v wd cp pr sa : Int} {up : List (List Int)} {cx : Cx} (h : CxOk v wd cp pr sa up cx) (n : Nat) : CxOk v wd cp pr sa up { cx with lim := n } :=
  ⟨h.cap, h.prod, h.uq, h.ends, h.ct, h.c64, h.p4, h.u6, h.ub, h.ul, h.eb, h.en, h.el, h.ck, h.wd⟩
theorem toNat_ints {l : List Int} (h : ∀ x ∈ l, 0 ≤ x) : l = ints (l.map Int.toNat) := by
  unfold ints
  rw [List.map_map]
  conv => lhs; rw [← List.map_id l]
  apply List.map_congr_left
  intro x hx
  have := h x hx
  show x = ((x.toNat : Nat) : Int)
  omega
theorem checkC_parts {v w c p : Int} {up : List (List Int)} (h : checkC v w c p up = 0) : (w = 32 ∨ w = 64) ∧ (1 ≤ p ∧ p ≤ 4) ∧ (2 ≤ c ∧ c ≤ 64) ∧ checkG up = 0 := by
  unfold checkC at h
  split at h
  · cases h
  split at h
  · cases h
  next hw =>
  split at h
  · cases h
  next hr =>
  split at h
  · cases h
  next hp =>
  split at h
  · next hg => exact absurd h hg
  next hg =>
  split at h
  · cases h
  split at h
  · cases h
  next hc =>
  refine ⟨by omega, by omega, ?_, by simpa using hg⟩
  have : rightB c = true := by simpa using hr
  unfold rightB at this
  simp only [Bool.and_eq_true, decide_eq_true_eq] at this
  omega
theorem cxOf_ok {v wd cp pr sa : Int} {up : List (List Int)} (hs : QGc.Sm up) (h : checkC v wd cp pr up = 0) : CxOk v wd cp pr sa up (cxOf wd cp pr sa up) := by
  obtain ⟨hw, hp, hc, hg⟩ := checkC_parts h
  have hf := fine_of hg
  have hup : up = (up.map (fun l => l.map Int.toNat)).map ints := by
    rw [List.map_map]
    conv => lhs; rw [← List.map_id up]
    apply List.map_congr_left
    intro l hl
    exact toNat_ints (fun x hx => ((hf.all l hl).1 x hx).1)
  have hends : endsI up = ints ((endsI up).map Int.toNat) := toNat_ints (fun x hx => by
    obtain ⟨c, _, _, rfl⟩ := pick_mem.1 hx
    omega)
  have hel : (endsI up).length ≤ 6 := by
    unfold endsI pick
    rw [List.length_map]
    exact Nat.le_trans (List.length_filter_le _ _) (by rw [List.length_range]; exact hf.n6)
  refine ⟨rfl, by show pr = ((pr.toNat : Nat) : Int); omega, hup, hends, fun _ _ => rfl, ⟨by show 1 ≤ cp; omega, hc.2⟩, ?_, ?_, ?_, ?_, ?_, ?_, ?_, hg, hw⟩
  · show 1 ≤ pr.toNat ∧ pr.toNat ≤ 4; omega
  · show 1 ≤ (up.map _).length ∧ (up.map _).length ≤ 6; rw [List.length_map]; exact ⟨hf.n1, hf.n6⟩
  · intro l hl c hc
    obtain ⟨r, hr, rfl⟩ := List.mem_map.1 hl
    obtain ⟨x, hx, rfl⟩ := List.mem_map.1 hc
    show x.toNat < (up.map _).length
    rw [List.length_map]
    have := (hf.all r hr).1 x hx
    omega
  · intro l hl
    obtain ⟨r, hr, rfl⟩ := List.mem_map.1 hl
    rw [List.length_map]
    exact hs.2 r hr
  · intro c hc
    obtain ⟨x, hx, rfl⟩ := List.mem_map.1 hc
    obtain ⟨c, h1, _, rfl⟩ := pick_mem.1 hx
    show _ < (up.map _).length
    rw [List.length_map]
    omega
  · intro e
    have e2 : (endsI up).map Int.toNat = [] := e
    rw [List.map_eq_nil_iff] at e2
    exact ends_some hf e2
  · show ((endsI up).map Int.toNat).length ≤ 6
    rw [List.length_map]
    exact hel
theorem copy_loop (up : List (List Int)) (hs : QGc.Sm up) : ∀ (d k i : Nat), up.length - i = d → i ≤ up.length → d < k → QGc.graph_Copy.l0 k (up.take i) up (up.length : Int) (i : Int) = some up := by
  intro d
  induction d with
  | zero =>
    intro k i hd hi hk
    obtain ⟨k, rfl⟩ : ∃ k', k = k' + 1 := ⟨k - 1, by omega⟩
    obtain rfl : i = up.length := by omega
    unfold QGc.graph_Copy.l0
    rw [if_neg (by omega), List.take_length]
  | succ d ih =>
    intro k i hd hi hk
    obtain ⟨k, rfl⟩ : ∃ k', k = k' + 1 := ⟨k - 1, by omega⟩
    have hlt : i < up.length := by omega
    have hrow : (rd_L1 up (i : Int)).length ≤ 20 := by rw [QGc.rdL]; exact hs.at i
    have h20 := hs.1
    unfold QGc.graph_Copy.l0
    rw [if_pos (by omega), if_pos (by omega), if_pos (by omega)]
    simp only [Option.bind_some, List.nil_append, List.length_nil, Nat.zero_add]
    rw [if_pos (by omega), if_pos (by rw [List.length_take]; omega)]
    have e1 : up.take i ++ [rd_L1 up (i : Int)] = up.take (i + 1) := by
      rw [QGc.rdL, List.take_succ_eq_append_getElem hlt, List.getD_eq_getElem?_getD, List.getElem?_eq_getElem hlt]
      rfl
    rw [e1, QGc.w1 (by omega)]
    exact ih k (i + 1) (by omega) (by omega) (by omega)
theorem copy_ok (up : List (List Int)) (hs : QGc.Sm up) : QGc.graph_Copy.f 100 up = some up := copy_loop up hs up.length 100 0 rfl (Nat.zero_le _) (by have := hs.1; omega)
theorem wcut {n s : Int} (hn : n = 32 ∨ n = 64) (hs : U64 s) (w : World) : Calls Tryd.prog 110 #[.int .i64 n, .int .u64 s] w fun e w' => e = .returned (.int .u64 (cutW n s)) ∧ Below w.heap.size w w' := by
  have hc : cutW n s = if n = 32 then Int.tmod s 4294967296 else s := by
    unfold cutW QWi.sakiaref01_Cut.f
    rcases hn with rfl | rfl <;> rfl
  rw [hc]
  rcases hn with rfl | rfl
  · rw [if_pos rfl]
    have e1 : IntKind.u64.wrap (s % 4294967296) = Int.tmod s 4294967296 := by
      obtain ⟨h1, h2⟩ := hs
      rw [Int.tmod_eq_emod_of_nonneg h1]
      simp only [IntKind.wrap, IntKind.signed, IntKind.bits]
      first | omega | (simp; omega)
    have H1 := Aside.mk (fun w => QWi.wide_Of_uint32.calls s (s % 4294967296) w rfl)
    have H2 := Aside.mk (fun w => QWi.wide_Up_uint32.calls (s % 4294967296) _ w rfl)
    rw [e1] at H2
    generalize s % 4294967296 = s1 at *
    generalize Int.tmod s 4294967296 = s2 at *
    clear hc e1
    go_enter Tryd.func110, Tryd.ntmps110
    go_wp2_with fail
    refine (H1.out _).mono ?_
    rintro r w1 ⟨rfl, hd1⟩
    go_wp2_with fail
    refine (H2.out _).mono ?_
    rintro r w2 ⟨rfl, hd2⟩
    go_wp2
    go_ret
    exact ⟨rfl, (drawn_below hd1).trans ((drawn_below hd2).mono (drawn_below hd1).size)⟩
  · rw [if_neg (by decide)]
    go_enter Tryd.func110, Tryd.ntmps110
    go_wp2
    go_ret
    exact ⟨rfl, Below.refl _ _⟩
end Go.Proofs.YtnnfcdffnckoiaaDoor.Mo
/- model.New, walked: the model of a configuration that may be is new, and nothing has happened on it. -/
set_option linter.unusedVariables false
set_option linter.unusedSimpArgs false
set_option maxRecDepth 100000
namespace Go.Proofs.YtnnfcdffnckoiaaDoor.Mo
open Go.RowKit Go.Proofs.YtnnfcdffnckoiaaDoorW.PrintWords Go.Proofs.YtnnfcdffnckoiaaDoorW.PrintLast Go.Proofs.YtnnfcdffnckoiaaDoorW.PrintMore
open Graph (checkG Fine Gv endsI ref_ends fine_of ends_some Tabled ends_okR)
open QGc (checkC boundB)
theorem cell6 {w : World} {g : Nat} {c0 c1 c2 c3 c4 c5 : Value} {t : TypeId} (h : w.heap[g]? = some (.cells #[c0, c1, c2, c3, c4, c5] t (0, 0))) :
    w.cell? ⟨g, 0, none⟩ = some c0 ∧ w.cell? ⟨g, 1, none⟩ = some c1 ∧ w.cell? ⟨g, 2, none⟩ = some c2 ∧ w.cell? ⟨g, 3, none⟩ = some c3 ∧ w.cell? ⟨g, 4, none⟩ = some c4 ∧ w.cell? ⟨g, 5, none⟩ = some c5 := by
  refine ⟨?_, ?_, ?_, ?_, ?_, ?_⟩ <;> simp [World.cell?, h]
theorem pcheck {w : World} {v wd cp pr sa : Int} {A : Option Addr} {C : Nat} {up : List (List Int)} (h : Gv w A C up) : Calls Tryd.prog 42 #[.agg #[.int .i64 v, .int .i64 wd, .int .i64 cp, .int .i64 pr, .int .u64 sa, .slice A up.length C]] w fun e w' => e = .returned (.int .i64 (checkC v wd cp pr up)) ∧ Below w.heap.size w w' :=
  QGc.confCheck v wd cp pr sa A C up w h.sm h.rd h.cap
theorem pstart {w : World} {v wd cp pr sa : Int} {A : Option Addr} {C : Nat} {up : List (List Int)} (h : Gv w A C up) (hc : checkC v wd cp pr up = 0) (hu : U64 sa) : Calls Tryd.prog 60 #[.agg #[.int .i64 v, .int .i64 wd, .int .i64 cp, .int .i64 pr, .int .u64 sa, .slice A up.length C]] w fun e w' => e = .returned (.int .u64 (cutW wd sa)) ∧ Below w.heap.size w w' := by
  have HW := Aside.mk (checkC_parts hc).1
  have HU := Aside.mk hu
  have hb0 := below_alloc (Below.refl w.heap.size w) (.cells #[.int .i64 v, .int .i64 wd, .int .i64 cp, .int .i64 pr, .int .u64 sa, .slice A up.length C] 25)
  have HX := heap_alloc_new w (.cells #[.int .i64 v, .int .i64 wd, .int .i64 cp, .int .i64 pr, .int .u64 sa, .slice A up.length C] 25)
  have HP := Aside.mk (pcheck (v := v) (wd := wd) (cp := cp) (pr := pr) (sa := sa) (h.below hb0))
  rw [hc] at HP
  obtain ⟨x0, x1, x2, x3, x4, x5⟩ := cell6 HX
  have HB := Aside.mk hb0
  have HX' := Aside.mk HX
  clear h hc hu hb0 HX
  go_enter Tryd.func60, Tryd.ntmps60
  go_upto_region 1 with (fail)
  generalize w.alloc (.cells #[.int .i64 v, .int .i64 wd, .int .i64 cp, .int .i64 pr, .int .u64 sa, .slice A up.length C] 25) = w2 at *
  go_wp2_with fail
  refine HP.out.mono ?_
  rintro r w3 ⟨rfl, hb⟩
  clear x0 x1 x2 x3 x4 x5
  obtain ⟨x0, x1, x2, x3, x4, x5⟩ := cell6 (blk_below HX'.out hb)
  have HB3 := Aside.mk (HB.out.trans (hb.mono HB.out.size))
  clear hb
  go_wp2_with fail
  refine (wcut HW.out HU.out _).mono ?_
  rintro r w4 ⟨rfl, hb⟩
  go_wp2
  go_ret
  exact ⟨rfl, HB3.out.trans (hb.mono HB3.out.size)⟩
/-- A row of its own, at its slice. -/
def RowV {α : Type} (d : Kd α) (e : Nat) (W : World) (base n : Nat) (v : Value) (xs : List α) : Prop := ∃ A c, v = .slice A n c ∧ d.R e W base (fun _ => True) v xs
theorem RowV.below {α : Type} {d : Kd α} {e : Nat} {W W' : World} {base n : Nat} {v : Value} {xs : List α} (h : RowV d e W base n v xs) (b : Below W.heap.size W W') : RowV d e W' base n v xs := by
  obtain ⟨A, c, e1, h1⟩ := h
  exact ⟨A, c, e1, Kd.R_below h1 b⟩
def Apt (a b : Value) : Prop := ∀ q, a.ownBlock = some q → b.ownBlock ≠ some q
/-- While a model is made: some of its rows are there. -/
structure NW (w6 : World) (bx : Nat) (cv : Array Value) (A : Option Addr) (C : Nat) (up : List (List Int)) (np nu ne : Nat) (ends : List Int) (d5 d8 d10 d12 : Bool) (E H G S : Value) (W : World) : Prop where
  b : Below w6.heap.size w6 W
  x : W.heap[bx]? = some (.cells cv 25 (0, 0))
  t : Tabled W
  r : Gv W A C up
  e : d5 = true → RowV (Kd.int .i64) 3 W w6.heap.size ne E ends
  h : d8 = true → RowV (Kd.raw 4) 62 W w6.heap.size np H (List.replicate np [.int .i64 0, .int .i64 0, .int .i64 0, .bool false])
  g : d10 = true → RowV (Kd.int .i64) 3 W w6.heap.size nu G (List.replicate nu 0)
  s : d12 = true → RowV (Kd.int .i64) 3 W w6.heap.size nu S (List.replicate nu 0)
  eg : d5 = true → d10 = true → Apt E G
  es : d5 = true → d12 = true → Apt E S
  gs : d10 = true → d12 = true → Apt G S
section
variable {w6 : World} {bx : Nat} {cv : Array Value} {A : Option Addr} {C : Nat} {up : List (List Int)} {np nu ne : Nat} {ends : List Int} {d5 d8 d10 d12 : Bool} {E H G S : Value} {W W' : World}
theorem NW.below (h : NW w6 bx cv A C up np nu ne ends d5 d8 d10 d12 E H G S W) (b : Below W.heap.size W W') : NW w6 bx cv A C up np nu ne ends d5 d8 d10 d12 E H G S W' :=
  ⟨h.b.trans (b.mono h.b.size), blk_below h.x b, h.t.below b, h.r.below b, fun d => (h.e d).below b, fun d => (h.h d).below b, fun d => (h.g d).below b, fun d => (h.s d).below b, h.eg, h.es, h.gs⟩
theorem RowV.lt {α : Type} {d : Kd α} {e : Nat} {W : World} {base n : Nat} {v : Value} {xs : List α} (h : RowV d e W base n v xs) : ∀ q, v.ownBlock = some q → q < W.heap.size := by
  obtain ⟨A, c, e1, h1⟩ := h
  exact Kd.R_lt h1
theorem NW.setE (h : NW w6 bx cv A C up np nu ne ends false d8 d10 d12 E H G S W) (b : Below W.heap.size W W') {v : Value} (hr : RowV (Kd.int .i64) 3 W' W.heap.size ne v ends) : NW w6 bx cv A C up np nu ne ends true d8 d10 d12 v H G S W' := by
  have h2 := h.below b
  obtain ⟨A1, c1, e1, h1⟩ := hr
  have hbs := Kd.R_base h1
  exact { h2 with e := fun _ => ⟨A1, c1, e1, Kd.R_lower h1 h.b.size⟩, eg := fun _ d q hq e => by have := hbs q hq; have := (h.g d).lt q e; omega, es := fun _ d q hq e => by have := hbs q hq; have := (h.s d).lt q e; omega }
theorem NW.setH (h : NW w6 bx cv A C up np nu ne ends d5 false d10 d12 E H G S W) (b : Below W.heap.size W W') {v : Value} (hr : RowV (Kd.raw 4) 62 W' W.heap.size np v (List.replicate np [.int .i64 0, .int .i64 0, .int .i64 0, .bool false])) : NW w6 bx cv A C up np nu ne ends d5 true d10 d12 E v G S W' := by
  have h2 := h.below b
  obtain ⟨A1, c1, e1, h1⟩ := hr
  exact { h2 with h := fun _ => ⟨A1, c1, e1, Kd.R_lower h1 h.b.size⟩ }
theorem NW.setG (h : NW w6 bx cv A C up np nu ne ends d5 d8 false d12 E H G S W) (b : Below W.heap.size W W') {v : Value} (hr : RowV (Kd.int .i64) 3 W' W.heap.size nu v (List.replicate nu 0)) : NW w6 bx cv A C up np nu ne ends d5 d8 true d12 E H v S W' := by
  have h2 := h.below b
  obtain ⟨A1, c1, e1, h1⟩ := hr
  have hbs := Kd.R_base h1
  exact { h2 with g := fun _ => ⟨A1, c1, e1, Kd.R_lower h1 h.b.size⟩, eg := fun d _ q hq e => by have := hbs q e; have := (h.e d).lt q hq; omega, gs := fun _ d q hq e => by have := hbs q hq; have := (h.s d).lt q e; omega }
theorem NW.setS (h : NW w6 bx cv A C up np nu ne ends d5 d8 d10 false E H G S W) (b : Below W.heap.size W W') {v : Value} (hr : RowV (Kd.int .i64) 3 W' W.heap.size nu v (List.replicate nu 0)) : NW w6 bx cv A C up np nu ne ends d5 d8 d10 true E H G v W' := by
  have h2 := h.below b
  obtain ⟨A1, c1, e1, h1⟩ := hr
  have hbs := Kd.R_base h1
  exact { h2 with s := fun _ => ⟨A1, c1, e1, Kd.R_lower h1 h.b.size⟩, es := fun d _ q hq e => by have := hbs q e; have := (h.e d).lt q hq; omega, gs := fun d _ q hq e => by have := hbs q e; have := (h.g d).lt q hq; omega }
end
theorem und98 : Tryd.prog.underlying 98 = some (.slice 62) := by kernel_rfl
theorem inf62 : (Tryd.prog.info? 62).map (fun i => (i.zero, i.size, i.bytes)) = some (some (.agg #[.int .i64 0, .int .i64 0, .int .i64 0, .bool false]), 4, 32) := by kernel_rfl
/-- What New leaves. -/
structure NewOk (w W : World) (base : Nat) (v wd cp pr sa : Int) (up : List (List Int)) (cx : Cx) (r : Ending) : Prop where mk ::
  out : ∃ B k, r = .returned (.tuple #[.pointer (some ⟨B, 0, none⟩), .int .i64 0]) ∧ MM base W B k { cx with lim := B } (st0 cx) ∧ (∀ q, Own k B q → w.heap.size ≤ q) ∧ Below w.heap.size w W
theorem NW.mm {w6 : World} {base b6 bx : Nat} {cv : Array Value} {A2 Ae Ah Ag As : Option Addr} {C2 ce ch cg cs : Nat} {up : List (List Int)} {wb : World} {v wd cp pr sa : Int} {cx : Cx} (hF : NW w6 bx cv A2 C2 up cx.prod up.length cx.ends.length (ints cx.ends) true true true true (.slice Ae cx.ends.length ce) (.slice Ah cx.prod ch) (.slice Ag up.length cg) (.slice As up.length cs) wb)
    (hS : Kd.S (Kd.slice 3 (Kd.int .i64)) 37 w6 b6 (fun _ => True) (.slice A2 up.length C2) up) (hb : base ≤ w6.heap.size) (hx : CxOk v wd cp pr sa up cx) (hu : U64 sa) (hlim : cx.lim = wb.heap.size) :
    MM base (wb.alloc (.cells #[.int .i64 v, .int .i64 wd, .int .i64 cp, .int .i64 pr, .int .u64 sa, .slice A2 up.length C2, .int .u64 (cutW wd sa), .slice Ae cx.ends.length ce, .int .i64 0, .int .i64 0, .int .i64 0, .slice Ah cx.prod ch, .slice none 0 0, .slice none 0 0, .slice Ag up.length cg, .slice As up.length cs] 100)) wb.heap.size ⟨v, wd, cp, pr, sa, cutW wd sa, A2, up.length, C2, Ae, cx.ends.length, ce, Ah, cx.prod, ch, none, 0, 0, none, 0, 0, Ag, up.length, cg, As, up.length, cs⟩ cx (st0 cx) ∧ ∀ q, Own ⟨v, wd, cp, pr, sa, cutW wd sa, A2, up.length, C2, Ae, cx.ends.length, ce, Ah, cx.prod, ch, none, 0, 0, none, 0, 0, Ag, up.length, cg, As, up.length, cs⟩ wb.heap.size q → w6.heap.size ≤ q := by
  have hbl := below_alloc (Below.refl wb.heap.size wb) (.cells #[.int .i64 v, .int .i64 wd, .int .i64 cp, .int .i64 pr, .int .u64 sa, .slice A2 up.length C2, .int .u64 (cutW wd sa), .slice Ae cx.ends.length ce, .int .i64 0, .int .i64 0, .int .i64 0, .slice Ah cx.prod ch, .slice none 0 0, .slice none 0 0, .slice Ag up.length cg, .slice As up.length cs] 100)
  have h2 := hF.below hbl
  obtain ⟨Ae', ce', ee, hre⟩ := h2.e rfl
  obtain ⟨Ah', ch', eh, hrh⟩ := h2.h rfl
  obtain ⟨Ag', cg', eg, hrg⟩ := h2.g rfl
  obtain ⟨As', cs', es, hrs⟩ := h2.s rfl
  obtain ⟨Ae0, ce0, ee0, hre0⟩ := hF.e rfl
  obtain ⟨Ah0, ch0, eh0, hrh0⟩ := hF.h rfl
  obtain ⟨Ag0, cg0, eg0, hrg0⟩ := hF.g rfl
  obtain ⟨As0, cs0, es0, hrs0⟩ := hF.s rfl
  have hlen : up.length = cx.up.length := by rw [hx.uq, List.length_map]
  have hle := hF.b.size
  have ho : ∀ q, Own ⟨v, wd, cp, pr, sa, cutW wd sa, A2, up.length, C2, Ae, cx.ends.length, ce, Ah, cx.prod, ch, none, 0, 0, none, 0, 0, Ag, up.length, cg, As, up.length, cs⟩ wb.heap.size q → w6.heap.size ≤ q := by
    intro q hq
    rcases hq with e | e | e | e | e | e
    · omega
    · exact Kd.R_base hrh0 q e.symm
    · cases e
    · cases e
    · exact Kd.R_base hrg0 q e.symm
    · exact Kd.R_base hrs0 q e.symm
  have hB := heap_alloc_new wb (.cells #[.int .i64 v, .int .i64 wd, .int .i64 cp, .int .i64 pr, .int .u64 sa, .slice A2 up.length C2, .int .u64 (cutW wd sa), .slice Ae cx.ends.length ce, .int .i64 0, .int .i64 0, .int .i64 0, .slice Ah cx.prod ch, .slice none 0 0, .slice none 0 0, .slice Ag up.length cg, .slice As up.length cs] 100)
  have hhl : (st0 cx).held.map hcl = List.replicate cx.prod [.int .i64 0, .int .i64 0, .int .i64 0, .bool false] := by
    show (List.replicate cx.prod hz).map hcl = _
    rw [List.map_replicate]
    rfl
  have hgl : (st0 cx).gate = List.replicate up.length 0 := by rw [hlen]; rfl
  have hsl : (st0 cx).saw = List.replicate up.length 0 := by rw [hlen]; rfl
  have hE : Kd.F (Kd.int .i64) (wb.alloc (.cells #[.int .i64 v, .int .i64 wd, .int .i64 cp, .int .i64 pr, .int .u64 sa, .slice A2 up.length C2, .int .u64 (cutW wd sa), .slice Ae cx.ends.length ce, .int .i64 0, .int .i64 0, .int .i64 0, .slice Ah cx.prod ch, .slice none 0 0, .slice none 0 0, .slice Ag up.length cg, .slice As up.length cs] 100)) (fun q => ¬ Own ⟨v, wd, cp, pr, sa, cutW wd sa, A2, up.length, C2, Ae, cx.ends.length, ce, Ah, cx.prod, ch, none, 0, 0, none, 0, 0, Ag, up.length, cg, As, up.length, cs⟩ wb.heap.size q ∧ q < cx.lim) Ae cx.ends.length (ints cx.ends) := by
    refine Kd.F_mono (Kd.R_F (Kd.R_tight rfl hre)) (fun q hq => ⟨fun hown => ?_, by rw [hlim]; exact Kd.R_lt hre0 q hq.symm⟩)
    have hq2 : (Value.slice Ae cx.ends.length ce).ownBlock = some q := hq.symm
    have hlt := Kd.R_lt hre0 q hq2
    rcases hown with e | e | e | e | e | e
    · omega
    · obtain ⟨c1, t1⟩ := Kd.R_typed hre0 q hq2
      exact (Kd.R_ne hrh0 t1 (by decide)) e
    · cases e
    · cases e
    · exact hF.eg rfl rfl q hq2 e.symm
    · exact hF.es rfl rfl q hq2 e.symm
  have hU : Kd.F (Kd.slice 3 (Kd.int .i64)) (wb.alloc (.cells #[.int .i64 v, .int .i64 wd, .int .i64 cp, .int .i64 pr, .int .u64 sa, .slice A2 up.length C2, .int .u64 (cutW wd sa), .slice Ae cx.ends.length ce, .int .i64 0, .int .i64 0, .int .i64 0, .slice Ah cx.prod ch, .slice none 0 0, .slice none 0 0, .slice Ag up.length cg, .slice As up.length cs] 100)) (fun q => ¬ Own ⟨v, wd, cp, pr, sa, cutW wd sa, A2, up.length, C2, Ae, cx.ends.length, ce, Ah, cx.prod, ch, none, 0, 0, none, 0, 0, Ag, up.length, cg, As, up.length, cs⟩ wb.heap.size q ∧ q < cx.lim) A2 up.length (cx.up.map ints) := by
    rw [show cx.up.map ints = up from hx.uq.symm]
    exact Kd.F_mono (Kd.F_below (Kd.F_bound (Kd.S_F hS)) h2.b) (fun q hq => ⟨fun hown => absurd hq.2 (by have := ho q hown; omega), by rw [hlim]; exact Nat.lt_of_lt_of_le hq.2 hle⟩)
  have hMX : MX base (wb.alloc (.cells #[.int .i64 v, .int .i64 wd, .int .i64 cp, .int .i64 pr, .int .u64 sa, .slice A2 up.length C2, .int .u64 (cutW wd sa), .slice Ae cx.ends.length ce, .int .i64 0, .int .i64 0, .int .i64 0, .slice Ah cx.prod ch, .slice none 0 0, .slice none 0 0, .slice Ag up.length cg, .slice As up.length cs] 100)) wb.heap.size ⟨v, wd, cp, pr, sa, cutW wd sa, A2, up.length, C2, Ae, cx.ends.length, ce, Ah, cx.prod, ch, none, 0, 0, none, 0, 0, Ag, up.length, cg, As, up.length, cs⟩ cx (st0 cx) :=
    { bt := ⟨_, hB⟩, bb := Nat.le_trans hb hle
      h := by rw [hhl]; exact Kd.R_lower hrh hb
      p := Kd.R_nil _ _ _ _ _
      d := Kd.R_nil _ _ _ _ _
      g := by rw [hgl]; exact Kd.R_lower hrg hb
      s := by rw [hsl]; exact Kd.R_lower hrs hb
      dg := fun q hq => nomatch hq
      ds := fun q hq => nomatch hq
      gs := fun q hq => hF.gs rfl rfl q hq
      e := hE
      u := hU }
  have hI := Inv.zero (cx := cx) hx.c64.1
  have hG := hI.good (Nat.zero_le _)
  refine ⟨⟨hMX, ?_⟩, ho⟩
  exact { blk := hB
          un := hlen, uc := (Kd.S_reads' hS).2.1, u := by have := Kd.F_now hU; exact this
          en := rfl, ec := (Kd.R_reads' hre0).2.1, e := by have := Kd.F_now hE; rw [ints_len]; exact this
          hn := rfl, h := held_c hMX.h, pn := rfl, p := bools_c hMX.p, dn := rfl, d := (ints_c hMX.d).2
          gn := hlen, g := (ints_c hMX.g).2, sn := hlen, s := (ints_c hMX.s).2
          wf := hI.wf, cp := hx.cap, pr := hx.prod, s0 := rfl, us := hu, ct := hx.ct, c64 := hx.c64, p4 := hx.p4.2, u6 := hx.u6.2, ub := hx.ub, ul := hx.ul, eb := hx.eb, en0 := hx.en, el := hx.el
          tb := hG.tb, gb := hG.gb, rb := hG.rb }
set_option maxHeartbeats 16000000 in
theorem pnew (w0 w : World) (h0 : Below w0.heap.size w0 w) (v wd cp pr sa : Int) (A : Option Addr) (C : Nat) (up : List (List Int)) (h : Gv w A C up) (hc : checkC v wd cp pr up = 0) (hu : U64 sa) (hT : Tabled w) (cx : Cx) (hx : CxOk v wd cp pr sa up cx) : Calls Tryd.prog 25 #[.agg #[.int .i64 v, .int .i64 wd, .int .i64 cp, .int .i64 pr, .int .u64 sa, .slice A up.length C]] w fun r W => NewOk w W w0.heap.size v wd cp pr sa up cx r := by
  have hb0 := below_alloc (Below.refl w.heap.size w) (.cells #[.int .i64 v, .int .i64 wd, .int .i64 cp, .int .i64 pr, .int .u64 sa, .slice A up.length C] 25)
  have HX := heap_alloc_new w (.cells #[.int .i64 v, .int .i64 wd, .int .i64 cp, .int .i64 pr, .int .u64 sa, .slice A up.length C] 25)
  have HP := Aside.mk (pcheck (v := v) (wd := wd) (cp := cp) (pr := pr) (sa := sa) (h.below hb0))
  rw [hc] at HP
  have HH := Aside.mk h
  have HCK := Aside.mk hc
  have HT := Aside.mk hT
  have HCX := Aside.mk hx
  have HU := Aside.mk hu
  have H0 := Aside.mk h0
  obtain ⟨x0, x1, x2, x3, x4, x5⟩ := cell6 HX
  have HB := Aside.mk hb0
  have HX' := Aside.mk HX
  clear h hc hu hb0 HX hT hx h0
  go_enter Tryd.func25, Tryd.ntmps25
  go_upto_region 1 with (fail)
  generalize w.alloc (.cells #[.int .i64 v, .int .i64 wd, .int .i64 cp, .int .i64 pr, .int .u64 sa, .slice A up.length C] 25) = w2 at *
  go_wp2_with fail
  refine HP.out.mono ?_
  rintro r w3 ⟨rfl, hb⟩
  clear x0 x1 x2 x3 x4 x5 HP
  replace HX' := Aside.mk (blk_below HX'.out hb)
  obtain ⟨x0, x1, x2, x3, x4, x5⟩ := cell6 HX'.out
  replace HB := Aside.mk (HB.out.trans (hb.mono HB.out.size))
  clear hb
  have HCP := Aside.mk (QGc.graph_Copy.calls 100 A C up up w3 (HH.out.below HB.out).rd (HH.out.below HB.out).cap (copy_ok up HH.out.sm))
  go_wp2_with fail
  refine HCP.out.mono ?_
  rintro r w4 ⟨v0, rfl, hS, hb⟩
  obtain ⟨A2, C2, e2⟩ := Kd.S_slice hS
  subst e2
  have HS := Aside.mk hS
  clear x0 x1 x2 x3 x4 x5 HCP hS
  replace HX' := Aside.mk (blk_below HX'.out hb)
  obtain ⟨x0, x1, x2, x3, x4, x5⟩ := cell6 HX'.out
  have f5 := blk_frozen HX'.out 5
  have HB3 := HB
  replace HB := Aside.mk (HB.out.trans (hb.mono HB.out.size))
  have H43 := Aside.mk (blk_lt HX'.out)
  clear hb
  go_upto_region 5 with (fail)
  have HX5 := Aside.mk (blk_put (cs' := #[.int .i64 v, .int .i64 wd, .int .i64 cp, .int .i64 pr, .int .u64 sa, .slice A2 up.length C2]) HX'.out 5 (.slice A2 up.length C2) rfl)
  have HB5 := Aside.mk (HB.out.setCell (p := ⟨w.heap.size, 5, none⟩) (Nat.le_refl _) (.slice A2 up.length C2))
  have HS5 := Aside.mk (Kd.S_set HS.out HX'.out (by decide) 5 (.slice A2 up.length C2))
  clear HX' HB HS x0 x1 x2 x3 x4 x5 f5
  generalize w4.setCell ⟨w.heap.size, 5, none⟩ (.slice A2 up.length C2) = w5 at *
  obtain ⟨x0, x1, x2, x3, x4, x5⟩ := cell6 HX5.out
  go_wp2_with fail
  clear x0 x1 x2 x3 x4 x5
  refine start_ (n := 17) (S := fun w' => w'.cell? ⟨w.heap.size, 0, none⟩ = some (.int .i64 v) ∧ w'.cell? ⟨w.heap.size, 1, none⟩ = some (.int .i64 wd) ∧ w'.cell? ⟨w.heap.size, 2, none⟩ = some (.int .i64 cp) ∧ w'.cell? ⟨w.heap.size, 3, none⟩ = some (.int .i64 pr) ∧ w'.cell? ⟨w.heap.size, 4, none⟩ = some (.int .u64 sa) ∧ w'.cell? ⟨w.heap.size, 5, none⟩ = some (.slice A2 up.length C2) ∧ True) (ds := []) #[false, false, false, false, false, false, false, false, false, false, false, false, false, false, false, false, false] (by kernel_rfl) rfl rfl ⟨(blk_cell (blk_drew HX5.out) 0).trans rfl, (blk_cell (blk_drew HX5.out) 1).trans rfl, (blk_cell (blk_drew HX5.out) 2).trans rfl, (blk_cell (blk_drew HX5.out) 3).trans rfl, (blk_cell (blk_drew HX5.out) 4).trans rfl, (blk_cell (blk_drew HX5.out) 5).trans rfl, trivial⟩ (fun hHeld => ?_)
  have hS6 := Kd.S_drew HS5.out
  replace HX5 := Aside.mk (blk_drew HX5.out)
  replace HB5 := Aside.mk (below_drew1 HB5.out)
  have HS6 := Aside.mk hS6
  clear HS5 hS6
  generalize w5.drew = w6 at *
  have HN0 := Aside.mk (show NW w6 w.heap.size #[.int .i64 v, .int .i64 wd, .int .i64 cp, .int .i64 pr, .int .u64 sa, .slice A2 up.length C2] A2 C2 up cx.prod up.length cx.ends.length (ints cx.ends) false false false false undef undef undef undef w6 from ⟨Below.refl _ _, HX5.out, HT.out.below HB5.out, ⟨(Kd.S_reads' HS6.out).2.2, (Kd.S_reads' HS6.out).2.1, HH.out.sm⟩, (fun d => nomatch d), (fun d => nomatch d), (fun d => nomatch d), (fun d => nomatch d), (fun d _ => nomatch d), (fun d _ => nomatch d), (fun d _ => nomatch d)⟩)
  refine take_ (i := 0) (N := some 18) (v := ?_) (a' := ?_) #[true, false, false, false, false, false, false, false, false, false, false, false, false, false, false, false, false] rfl rfl (by kernel_rfl) (fun _ _ _ h => h) (Or.inl ⟨by rfl, ?_⟩) hHeld ?_ ?_
  rotate_left
  · rintro w' ⟨s0, s1, s2, s3, s4, s5, s6⟩
    go_simp
    with_reducible rfl
  rotate_left
  · simp only [Act.put, List.setIfInBounds_toArray, List.set_cons_zero, List.set_cons_succ, i64_w, i32_w]
    rfl
  refine take_ (i := 1) (N := some 19) (v := ?_) (a' := ?_) #[true, true, false, false, false, false, false, false, false, false, false, false, false, false, false, false, false] rfl rfl (by kernel_rfl) (fun _ _ _ h => h) (Or.inl ⟨by rfl, ?_⟩) hHeld ?_ ?_
  rotate_left
  · rintro w' ⟨s0, s1, s2, s3, s4, s5, s6⟩
    go_simp
    with_reducible rfl
  rotate_left
  · simp only [Act.put, List.setIfInBounds_toArray, List.set_cons_zero, List.set_cons_succ, i64_w, i32_w]
    rfl
  refine pure_ (i := 3) (N := some 21) (v := ?_) (a' := ?_) #[true, true, false, true, false, false, false, false, false, false, false, false, false, false, false, false, false] rfl rfl (by kernel_rfl) (fun _ _ _ h => h) (Or.inl ⟨by rfl, ?_⟩) ?_ ?_
  rotate_left
  · intro w'
    go_simp
    with_reducible rfl
  rotate_left
  · simp only [Act.put, List.setIfInBounds_toArray, List.set_cons_zero, List.set_cons_succ, i64_w, i32_w]
    rfl
  refine take_ (i := 4) (N := some 22) (v := ?_) (a' := ?_) #[true, true, false, true, true, false, false, false, false, false, false, false, false, false, false, false, false] rfl rfl (by kernel_rfl) (fun _ _ _ h => h) (Or.inl ⟨by rfl, ?_⟩) hHeld ?_ ?_
  rotate_left
  · rintro w' ⟨s0, s1, s2, s3, s4, s5, s6⟩
    go_simp
    with_reducible rfl
  rotate_left
  · simp only [Act.put, List.setIfInBounds_toArray, List.set_cons_zero, List.set_cons_succ, i64_w, i32_w]
    rfl
  refine pure_ (i := 6) (N := some 24) (v := ?_) (a' := ?_) #[true, true, false, true, true, false, true, false, false, false, false, false, false, false, false, false, false] rfl rfl (by kernel_rfl) (fun _ _ _ h => h) (Or.inl ⟨by rfl, ?_⟩) ?_ ?_
  rotate_left
  · intro w'
    go_simp
    with_reducible rfl
  rotate_left
  · simp only [Act.put, List.setIfInBounds_toArray, List.set_cons_zero, List.set_cons_succ, i64_w, i32_w]
    rfl
  refine take_ (i := 7) (N := some 25) (v := ?_) (a' := ?_) #[true, true, false, true, true, false, true, true, false, false, false, false, false, false, false, false, false] rfl rfl (by kernel_rfl) (fun _ _ _ h => h) (Or.inl ⟨by rfl, ?_⟩) hHeld ?_ ?_
  rotate_left
  · rintro w' ⟨s0, s1, s2, s3, s4, s5, s6⟩
    go_simp
    with_reducible rfl
  rotate_left
  · simp only [Act.put, List.setIfInBounds_toArray, List.set_cons_zero, List.set_cons_succ, i64_w, i32_w]
    rfl
  refine pure_ (i := 9) (N := some 27) (v := ?_) (a' := ?_) #[true, true, false, true, true, false, true, true, false, true, false, false, false, false, false, false, false] rfl rfl (by kernel_rfl) (fun _ _ _ h => h) (Or.inl ⟨by rfl, ?_⟩) ?_ ?_
  rotate_left
  · intro w'
    go_simp
    with_reducible rfl
  rotate_left
  · simp only [Act.put, List.setIfInBounds_toArray, List.set_cons_zero, List.set_cons_succ, i64_w, i32_w]
    rfl
  refine pure_ (i := 11) (N := some 29) (v := ?_) (a' := ?_) #[true, true, false, true, true, false, true, true, false, true, false, true, false, false, false, false, false] rfl rfl (by kernel_rfl) (fun _ _ _ h => h) (Or.inl ⟨by rfl, ?_⟩) ?_ ?_
  rotate_left
  · intro w'
    go_simp
    with_reducible rfl
  rotate_left
  · simp only [Act.put, List.setIfInBounds_toArray, List.set_cons_zero, List.set_cons_succ, i64_w, i32_w]
    rfl
  skip
  refine join_ (σ := Value × Value × Value × Value) 4 #[true, true, true, true, true, true, true, true, true, true, true, true, true, false, false, false, false] (fun s => [(20, .int .u64 (cutW wd sa)), (23, s.1), (26, s.2.1), (28, s.2.2.1), (30, s.2.2.2)]) (fun s wb => NW w6 w.heap.size #[.int .i64 v, .int .i64 wd, .int .i64 cp, .int .i64 pr, .int .u64 sa, .slice A2 up.length C2] A2 C2 up cx.prod up.length cx.ends.length (ints cx.ends) true true true true s.1 s.2.1 s.2.2.1 s.2.2.2 wb) (fun s wb hF => ?contJ2111) (fun J2111 => ?goJ2111)
  case contJ2111 =>
    obtain ⟨s1, s2, s3, s4⟩ := s
    simp only at hF
    obtain ⟨Ae, ce, rfl, hre⟩ := hF.e rfl
    obtain ⟨Ah, ch, rfl, hrh⟩ := hF.h rfl
    obtain ⟨Ag, cg, rfl, hrg⟩ := hF.g rfl
    obtain ⟨As, cs, rfl, hrs⟩ := hF.s rfl
    refine norm_ (a' := ?_) ?_ ?_
    rotate_left
    · simp only [putAll, Act.put, List.setIfInBounds_toArray, List.set_cons_zero, List.set_cons_succ, i64_w, i32_w]
      rfl
    have hHeld : (fun w' => w'.cell? ⟨w.heap.size, 0, none⟩ = some (.int .i64 v) ∧ w'.cell? ⟨w.heap.size, 1, none⟩ = some (.int .i64 wd) ∧ w'.cell? ⟨w.heap.size, 2, none⟩ = some (.int .i64 cp) ∧ w'.cell? ⟨w.heap.size, 3, none⟩ = some (.int .i64 pr) ∧ w'.cell? ⟨w.heap.size, 4, none⟩ = some (.int .u64 sa) ∧ w'.cell? ⟨w.heap.size, 5, none⟩ = some (.slice A2 up.length C2) ∧ True) wb := ⟨(blk_cell hF.x 0).trans rfl, (blk_cell hF.x 1).trans rfl, (blk_cell hF.x 2).trans rfl, (blk_cell hF.x 3).trans rfl, (blk_cell hF.x 4).trans rfl, (blk_cell hF.x 5).trans rfl, trivial⟩
    refine pure_ (i := 13) (N := some 31) (v := ?_) (a' := ?_) #[true, true, true, true, true, true, true, true, true, true, true, true, true, true, false, false, false] rfl rfl (by kernel_rfl) (fun _ _ _ h => h) (Or.inl ⟨by rfl, ?_⟩) ?_ ?_
    rotate_left
    · intro w'
      go_simp
      with_reducible rfl
    rotate_left
    · simp only [Act.put, List.setIfInBounds_toArray, List.set_cons_zero, List.set_cons_succ, i64_w, i32_w]
      rfl
    refine one_ (i := 14) (N := some 32) #[true, true, true, true, true, true, true, true, true, true, true, true, true, true, true, false, false] rfl rfl (by kernel_rfl) (by decide) (fun K hK => ?_)
    refine value_ (v := .pointer (some ⟨wb.heap.size, 0, none⟩)) (w1 := wb.alloc (.cells #[.int .i64 v, .int .i64 wd, .int .i64 cp, .int .i64 pr, .int .u64 sa, .slice A2 up.length C2, .int .u64 (cutW wd sa), .slice Ae cx.ends.length ce, .int .i64 0, .int .i64 0, .int .i64 0, .slice Ah cx.prod ch, .slice none 0 0, .slice none 0 0, .slice Ag up.length cg, .slice As up.length cs] 100)) (by rfl) rfl ?_ ?_
    · go_simp
    have hF2 := hF.below (below_alloc (Below.refl _ _) (.cells #[.int .i64 v, .int .i64 wd, .int .i64 cp, .int .i64 pr, .int .u64 sa, .slice A2 up.length C2, .int .u64 (cutW wd sa), .slice Ae cx.ends.length ce, .int .i64 0, .int .i64 0, .int .i64 0, .slice Ah cx.prod ch, .slice none 0 0, .slice none 0 0, .slice Ag up.length cg, .slice As up.length cs] 100))
    refine hK.out _ _ ⟨(blk_cell hF2.x 0).trans rfl, (blk_cell hF2.x 1).trans rfl, (blk_cell hF2.x 2).trans rfl, (blk_cell hF2.x 3).trans rfl, (blk_cell hF2.x 4).trans rfl, (blk_cell hF2.x 5).trans rfl, trivial⟩ (fun hHeld => ?_)
    clear hK K
    refine norm_ (a' := ?_) ?_ ?_
    rotate_left
    · show Act.put _ (some 32) _ = _
      simp only [Act.put, List.setIfInBounds_toArray, List.set_cons_zero, List.set_cons_succ, i64_w, i32_w]
      rfl
    refine pure_ (i := 15) (N := some 2) (v := ?_) (a' := ?_) #[true, true, true, true, true, true, true, true, true, true, true, true, true, true, true, true, false] rfl rfl (by kernel_rfl) (fun _ _ _ h => h) (Or.inl ⟨by rfl, ?_⟩) ?_ ?_
    rotate_left
    · intro w'
      go_simp
      with_reducible rfl
    rotate_left
    · simp only [Act.put, List.setIfInBounds_toArray, List.set_cons_zero, List.set_cons_succ, i64_w, i32_w]
      rfl
    refine pure_ (i := 16) (N := some 3) (v := ?_) (a' := ?_) #[true, true, true, true, true, true, true, true, true, true, true, true, true, true, true, true, true] rfl rfl (by kernel_rfl) (fun _ _ _ h => h) (Or.inl ⟨by rfl, ?_⟩) ?_ ?_
    rotate_left
    · intro w'
      go_simp
      with_reducible rfl
    rotate_left
    · simp only [Act.put, List.setIfInBounds_toArray, List.set_cons_zero, List.set_cons_succ, i64_w, i32_w]
      rfl
    refine done_ (by kernel_rfl) ?_
    obtain ⟨hMM, hown⟩ := NW.mm (cx := { cx with lim := wb.heap.size }) (v := v) (wd := wd) (cp := cp) (pr := pr) (sa := sa) hF HS6.out (Nat.le_trans H0.out.size HB5.out.size) (HCX.out.lim _) HU.out rfl
    have HRES := Aside.mk (And.intro hMM hown)
    have HBB := Aside.mk (HB5.out.trans (hF2.b.mono HB5.out.size))
    have HSZ := Aside.mk HB5.out.size
    clear hMM hown hF hF2 hHeld
    go_wp2
    go_ret2
    exact ⟨⟨wb.heap.size, _, rfl, HRES.out.1, fun q hq => Nat.le_trans HSZ.out (HRES.out.2 q hq), HBB.out⟩⟩
  case goJ2111 =>
    refine join_ (σ := Value × Value × Value × Value) 5 #[true, true, true, true, true, false, true, true, true, true, true, true, true, false, false, false, false] (fun s => [(20, .int .u64 (cutW wd sa)), (26, s.2.1), (28, s.2.2.1), (30, s.2.2.2)]) (fun s wb => NW w6 w.heap.size #[.int .i64 v, .int .i64 wd, .int .i64 cp, .int .i64 pr, .int .u64 sa, .slice A2 up.length C2] A2 C2 up cx.prod up.length cx.ends.length (ints cx.ends) false true true true s.1 s.2.1 s.2.2.1 s.2.2.2 wb) (fun s wb hF => ?contJ1111) (fun J1111 => ?goJ1111)
    case contJ1111 =>
      obtain ⟨s1, s2, s3, s4⟩ := s
      simp only at hF
      refine norm_ (a' := ?_) ?_ ?_
      rotate_left
      · simp only [putAll, Act.put, List.setIfInBounds_toArray, List.set_cons_zero, List.set_cons_succ, i64_w, i32_w]
        rfl
      refine one_ (i := 5) (N := some 23) #[true, true, true, true, true, true, true, true, true, true, true, true, true, false, false, false, false] rfl rfl (by kernel_rfl) (by decide) (fun K hK => ?_)
      refine goes_ Tryd.func44 (by kernel_rfl) rfl #[.slice A2 up.length C2] (by rfl) rfl rfl (by (try simp only [List.map_toArray, List.map_cons, List.map_nil]); first | done | rfl) ?_
      with_reducible refine (ends_okR hF.r HCX.out.ck hF.t).mono ?_
      rintro q wn ⟨Ae, ce, rfl, hre, hb⟩
      refine ⟨_, rfl, ?_⟩
      rw [HCX.out.ends, ints_len] at hre
      have hF2 := hF.setE hb ⟨Ae, ce, rfl, hre⟩
      refine hK.out _ _ ⟨(blk_cell hF2.x 0).trans rfl, (blk_cell hF2.x 1).trans rfl, (blk_cell hF2.x 2).trans rfl, (blk_cell hF2.x 3).trans rfl, (blk_cell hF2.x 4).trans rfl, (blk_cell hF2.x 5).trans rfl, trivial⟩ (fun hHeld => ?_)
      rw [HCX.out.ends, ints_len]
      exact J2111 (.slice Ae cx.ends.length ce, s2, s3, s4) wn hF2
    case goJ1111 =>
      refine join_ (σ := Value × Value × Value × Value) 5 #[true, true, true, true, true, true, true, true, false, true, true, true, true, false, false, false, false] (fun s => [(20, .int .u64 (cutW wd sa)), (23, s.1), (28, s.2.2.1), (30, s.2.2.2)]) (fun s wb => NW w6 w.heap.size #[.int .i64 v, .int .i64 wd, .int .i64 cp, .int .i64 pr, .int .u64 sa, .slice A2 up.length C2] A2 C2 up cx.prod up.length cx.ends.length (ints cx.ends) true false true true s.1 s.2.1 s.2.2.1 s.2.2.2 wb) (fun s wb hF => ?contJ2011) (fun J2011 => ?goJ2011)
      case contJ2011 =>
        obtain ⟨s1, s2, s3, s4⟩ := s
        simp only at hF
        refine norm_ (a' := ?_) ?_ ?_
        rotate_left
        · simp only [putAll, Act.put, List.setIfInBounds_toArray, List.set_cons_zero, List.set_cons_succ, i64_w, i32_w]
          rfl
        refine one_ (i := 8) (N := some 26) #[true, true, true, true, true, true, true, true, true, true, true, true, true, false, false, false, false] rfl rfl (by kernel_rfl) (by decide) (fun K hK => ?_)
        refine Kd.R_make_step (Kd.raw 4) (w0 := wb) wb.heap.size 62 (by rfl) rfl 98 (.tmp 25) (.tmp 25) rfl pr rfl rfl und98 (.agg #[.int .i64 0, .int .i64 0, .int .i64 0, .bool false]) 32 inf62 rfl (by decide) (by decide) [.int .i64 0, .int .i64 0, .int .i64 0, .bool false] (ok := fun _ => True) (okp := fun _ => False) (by exact ⟨rfl, rfl, fun u hu => by simp only [Value.cells, List.mem_cons, List.not_mem_nil, or_false] at hu; rcases hu with rfl | rfl | rfl | rfl <;> rfl⟩) (fun _ h => h.elim) trivial (by have := HCX.out.prod; omega) (by have := HCX.out.prod; have := HCX.out.p4; have := HH.out.sm.1; omega) (Below.refl _ _) (Nat.le_refl _) ?_
        intro vn wn hr hb hg hat
        obtain ⟨An, cn, en⟩ := Kd.R_slice hr
        subst en
        rw [List.length_replicate, show (pr).toNat = cx.prod by have := HCX.out.prod; omega] at hr hat
        have hF2 := hF.setH hb ⟨An, cn, rfl, hr⟩
        refine hK.out _ _ ⟨(blk_cell hF2.x 0).trans rfl, (blk_cell hF2.x 1).trans rfl, (blk_cell hF2.x 2).trans rfl, (blk_cell hF2.x 3).trans rfl, (blk_cell hF2.x 4).trans rfl, (blk_cell hF2.x 5).trans rfl, trivial⟩ (fun hHeld => ?_)
        rw [List.length_replicate, show (pr).toNat = cx.prod by have := HCX.out.prod; omega]
        exact J2111 (s1, .slice An cx.prod cn, s3, s4) wn hF2
      case goJ2011 =>
        refine join_ (σ := Value × Value × Value × Value) 5 #[true, true, true, true, true, true, true, true, true, true, false, true, true, false, false, false, false] (fun s => [(20, .int .u64 (cutW wd sa)), (23, s.1), (26, s.2.1), (30, s.2.2.2)]) (fun s wb => NW w6 w.heap.size #[.int .i64 v, .int .i64 wd, .int .i64 cp, .int .i64 pr, .int .u64 sa, .slice A2 up.length C2] A2 C2 up cx.prod up.length cx.ends.length (ints cx.ends) true true false true s.1 s.2.1 s.2.2.1 s.2.2.2 wb) (fun s wb hF => ?contJ2101) (fun J2101 => ?goJ2101)
        case contJ2101 =>
          obtain ⟨s1, s2, s3, s4⟩ := s
          simp only at hF
          refine norm_ (a' := ?_) ?_ ?_
          rotate_left
          · simp only [putAll, Act.put, List.setIfInBounds_toArray, List.set_cons_zero, List.set_cons_succ, i64_w, i32_w]
            rfl
          refine one_ (i := 10) (N := some 28) #[true, true, true, true, true, true, true, true, true, true, true, true, true, false, false, false, false] rfl rfl (by kernel_rfl) (by decide) (fun K hK => ?_)
          refine Kd.R_make_step (Kd.int .i64) (w0 := wb) wb.heap.size 3 (by rfl) rfl 37 (.tmp 27) (.tmp 27) rfl (up.length : Int) rfl rfl und37 (.int .i64 0) 8 inf3 rfl (by decide) (by decide) (0 : Int) (ok := fun _ => True) (okp := fun _ => False) (by exact rfl) (fun _ h => h.elim) trivial (by have := HCX.out.prod; omega) (by have := HCX.out.prod; have := HCX.out.p4; have := HH.out.sm.1; omega) (Below.refl _ _) (Nat.le_refl _) ?_
          intro vn wn hr hb hg hat
          obtain ⟨An, cn, en⟩ := Kd.R_slice hr
          subst en
          rw [List.length_replicate, Int.toNat_natCast] at hr hat
          have hF2 := hF.setG hb ⟨An, cn, rfl, hr⟩
          refine hK.out _ _ ⟨(blk_cell hF2.x 0).trans rfl, (blk_cell hF2.x 1).trans rfl, (blk_cell hF2.x 2).trans rfl, (blk_cell hF2.x 3).trans rfl, (blk_cell hF2.x 4).trans rfl, (blk_cell hF2.x 5).trans rfl, trivial⟩ (fun hHeld => ?_)
          rw [List.length_replicate, Int.toNat_natCast]
          exact J2111 (s1, s2, .slice An up.length cn, s4) wn hF2
        case goJ2101 =>
          refine join_ (σ := Value × Value × Value × Value) 5 #[true, true, true, true, true, true, true, true, true, true, true, true, false, false, false, false, false] (fun s => [(20, .int .u64 (cutW wd sa)), (23, s.1), (26, s.2.1), (28, s.2.2.1)]) (fun s wb => NW w6 w.heap.size #[.int .i64 v, .int .i64 wd, .int .i64 cp, .int .i64 pr, .int .u64 sa, .slice A2 up.length C2] A2 C2 up cx.prod up.length cx.ends.length (ints cx.ends) true true true false s.1 s.2.1 s.2.2.1 s.2.2.2 wb) (fun s wb hF => ?contJ2110) (fun J2110 => ?goJ2110)
          case contJ2110 =>
            obtain ⟨s1, s2, s3, s4⟩ := s
            simp only at hF
            refine norm_ (a' := ?_) ?_ ?_
            rotate_left
            · simp only [putAll, Act.put, List.setIfInBounds_toArray, List.set_cons_zero, List.set_cons_succ, i64_w, i32_w]
              rfl
            refine one_ (i := 12) (N := some 30) #[true, true, true, true, true, true, true, true, true, true, true, true, true, false, false, false, false] rfl rfl (by kernel_rfl) (by decide) (fun K hK => ?_)
            refine Kd.R_make_step (Kd.int .i64) (w0 := wb) wb.heap.size 3 (by rfl) rfl 37 (.tmp 29) (.tmp 29) rfl (up.length : Int) rfl rfl und37 (.int .i64 0) 8 inf3 rfl (by decide) (by decide) (0 : Int) (ok := fun _ => True) (okp := fun _ => False) (by exact rfl) (fun _ h => h.elim) trivial (by have := HCX.out.prod; omega) (by have := HCX.out.prod; have := HCX.out.p4; have := HH.out.sm.1; omega) (Below.refl _ _) (Nat.le_refl _) ?_
            intro vn wn hr hb hg hat
            obtain ⟨An, cn, en⟩ := Kd.R_slice hr
            subst en
            rw [List.length_replicate, Int.toNat_natCast] at hr hat
            have hF2 := hF.setS hb ⟨An, cn, rfl, hr⟩
            refine hK.out _ _ ⟨(blk_cell hF2.x 0).trans rfl, (blk_cell hF2.x 1).trans rfl, (blk_cell hF2.x 2).trans rfl, (blk_cell hF2.x 3).trans rfl, (blk_cell hF2.x 4).trans rfl, (blk_cell hF2.x 5).trans rfl, trivial⟩ (fun hHeld => ?_)
            rw [List.length_replicate, Int.toNat_natCast]
            exact J2111 (s1, s2, s3, .slice An up.length cn) wn hF2
          case goJ2110 =>
            refine join_ (σ := Value × Value × Value × Value) 6 #[true, true, false, true, true, false, true, true, true, true, true, true, true, false, false, false, false] (fun s => [(26, s.2.1), (28, s.2.2.1), (30, s.2.2.2)]) (fun s wb => NW w6 w.heap.size #[.int .i64 v, .int .i64 wd, .int .i64 cp, .int .i64 pr, .int .u64 sa, .slice A2 up.length C2] A2 C2 up cx.prod up.length cx.ends.length (ints cx.ends) false true true true s.1 s.2.1 s.2.2.1 s.2.2.2 wb) (fun s wb hF => ?contJ0111) (fun J0111 => ?goJ0111)
            case contJ0111 =>
              obtain ⟨s1, s2, s3, s4⟩ := s
              simp only at hF
              refine norm_ (a' := ?_) ?_ ?_
              rotate_left
              · simp only [putAll, Act.put, List.setIfInBounds_toArray, List.set_cons_zero, List.set_cons_succ, i64_w, i32_w]
                rfl
              refine one_ (i := 2) (N := some 20) #[true, true, true, true, true, false, true, true, true, true, true, true, true, false, false, false, false] rfl rfl (by kernel_rfl) (by decide) (fun K hK => ?_)
              refine goes_ Tryd.func60 (by kernel_rfl) rfl #[.agg #[.int .i64 v, .int .i64 wd, .int .i64 cp, .int .i64 pr, .int .u64 sa, .slice A2 up.length C2]] (by rfl) rfl rfl (by (try simp only [List.map_toArray, List.map_cons, List.map_nil]); first | done | rfl) ?_
              with_reducible refine (pstart hF.r HCK.out HU.out).mono ?_
              rintro q wn ⟨rfl, hb⟩
              refine ⟨_, rfl, ?_⟩
              have hF2 := hF.below hb
              refine hK.out _ _ ⟨(blk_cell hF2.x 0).trans rfl, (blk_cell hF2.x 1).trans rfl, (blk_cell hF2.x 2).trans rfl, (blk_cell hF2.x 3).trans rfl, (blk_cell hF2.x 4).trans rfl, (blk_cell hF2.x 5).trans rfl, trivial⟩ (fun hHeld => ?_)
              exact J1111 (s1, s2, s3, s4) wn hF2
            case goJ0111 =>
              refine join_ (σ := Value × Value × Value × Value) 6 #[true, true, true, true, true, false, true, true, false, true, true, true, true, false, false, false, false] (fun s => [(20, .int .u64 (cutW wd sa)), (28, s.2.2.1), (30, s.2.2.2)]) (fun s wb => NW w6 w.heap.size #[.int .i64 v, .int .i64 wd, .int .i64 cp, .int .i64 pr, .int .u64 sa, .slice A2 up.length C2] A2 C2 up cx.prod up.length cx.ends.length (ints cx.ends) false false true true s.1 s.2.1 s.2.2.1 s.2.2.2 wb) (fun s wb hF => ?contJ1011) (fun J1011 => ?goJ1011)
              case contJ1011 =>
                obtain ⟨s1, s2, s3, s4⟩ := s
                simp only at hF
                refine norm_ (a' := ?_) ?_ ?_
                rotate_left
                · simp only [putAll, Act.put, List.setIfInBounds_toArray, List.set_cons_zero, List.set_cons_succ, i64_w, i32_w]
                  rfl
                refine two_ (i := 5) (j := 8) (Ni := some 23) (Nj := some 26) #[true, true, true, true, true, true, true, true, false, true, true, true, true, false, false, false, false] #[true, true, true, true, true, false, true, true, true, true, true, true, true, false, false, false, false] rfl rfl rfl rfl (by kernel_rfl) (by decide) (by decide) (fun K hK => ?_) (fun K hK => ?_)
                ·
                  refine goes_ Tryd.func44 (by kernel_rfl) rfl #[.slice A2 up.length C2] (by rfl) rfl rfl (by (try simp only [List.map_toArray, List.map_cons, List.map_nil]); first | done | rfl) ?_
                  with_reducible refine (ends_okR hF.r HCX.out.ck hF.t).mono ?_
                  rintro q wn ⟨Ae, ce, rfl, hre, hb⟩
                  refine ⟨_, rfl, ?_⟩
                  rw [HCX.out.ends, ints_len] at hre
                  have hF2 := hF.setE hb ⟨Ae, ce, rfl, hre⟩
                  refine hK.out _ _ ⟨(blk_cell hF2.x 0).trans rfl, (blk_cell hF2.x 1).trans rfl, (blk_cell hF2.x 2).trans rfl, (blk_cell hF2.x 3).trans rfl, (blk_cell hF2.x 4).trans rfl, (blk_cell hF2.x 5).trans rfl, trivial⟩ (fun hHeld => ?_)
                  rw [HCX.out.ends, ints_len]
                  exact J2011 (.slice Ae cx.ends.length ce, s2, s3, s4) wn hF2
                ·
                  refine Kd.R_make_step (Kd.raw 4) (w0 := wb) wb.heap.size 62 (by rfl) rfl 98 (.tmp 25) (.tmp 25) rfl pr rfl rfl und98 (.agg #[.int .i64 0, .int .i64 0, .int .i64 0, .bool false]) 32 inf62 rfl (by decide) (by decide) [.int .i64 0, .int .i64 0, .int .i64 0, .bool false] (ok := fun _ => True) (okp := fun _ => False) (by exact ⟨rfl, rfl, fun u hu => by simp only [Value.cells, List.mem_cons, List.not_mem_nil, or_false] at hu; rcases hu with rfl | rfl | rfl | rfl <;> rfl⟩) (fun _ h => h.elim) trivial (by have := HCX.out.prod; omega) (by have := HCX.out.prod; have := HCX.out.p4; have := HH.out.sm.1; omega) (Below.refl _ _) (Nat.le_refl _) ?_
                  intro vn wn hr hb hg hat
                  obtain ⟨An, cn, en⟩ := Kd.R_slice hr
                  subst en
                  rw [List.length_replicate, show (pr).toNat = cx.prod by have := HCX.out.prod; omega] at hr hat
                  have hF2 := hF.setH hb ⟨An, cn, rfl, hr⟩
                  refine hK.out _ _ ⟨(blk_cell hF2.x 0).trans rfl, (blk_cell hF2.x 1).trans rfl, (blk_cell hF2.x 2).trans rfl, (blk_cell hF2.x 3).trans rfl, (blk_cell hF2.x 4).trans rfl, (blk_cell hF2.x 5).trans rfl, trivial⟩ (fun hHeld => ?_)
                  rw [List.length_replicate, show (pr).toNat = cx.prod by have := HCX.out.prod; omega]
                  exact J1111 (s1, .slice An cx.prod cn, s3, s4) wn hF2
              case goJ1011 =>
                refine join_ (σ := Value × Value × Value × Value) 6 #[true, true, true, true, true, false, true, true, true, true, false, true, true, false, false, false, false] (fun s => [(20, .int .u64 (cutW wd sa)), (26, s.2.1), (30, s.2.2.2)]) (fun s wb => NW w6 w.heap.size #[.int .i64 v, .int .i64 wd, .int .i64 cp, .int .i64 pr, .int .u64 sa, .slice A2 up.length C2] A2 C2 up cx.prod up.length cx.ends.length (ints cx.ends) false true false true s.1 s.2.1 s.2.2.1 s.2.2.2 wb) (fun s wb hF => ?contJ1101) (fun J1101 => ?goJ1101)
                case contJ1101 =>
                  obtain ⟨s1, s2, s3, s4⟩ := s
                  simp only at hF
                  refine norm_ (a' := ?_) ?_ ?_
                  rotate_left
                  · simp only [putAll, Act.put, List.setIfInBounds_toArray, List.set_cons_zero, List.set_cons_succ, i64_w, i32_w]
                    rfl
                  refine two_ (i := 5) (j := 10) (Ni := some 23) (Nj := some 28) #[true, true, true, true, true, true, true, true, true, true, false, true, true, false, false, false, false] #[true, true, true, true, true, false, true, true, true, true, true, true, true, false, false, false, false] rfl rfl rfl rfl (by kernel_rfl) (by decide) (by decide) (fun K hK => ?_) (fun K hK => ?_)
                  ·
                    refine goes_ Tryd.func44 (by kernel_rfl) rfl #[.slice A2 up.length C2] (by rfl) rfl rfl (by (try simp only [List.map_toArray, List.map_cons, List.map_nil]); first | done | rfl) ?_
                    with_reducible refine (ends_okR hF.r HCX.out.ck hF.t).mono ?_
                    rintro q wn ⟨Ae, ce, rfl, hre, hb⟩
                    refine ⟨_, rfl, ?_⟩
                    rw [HCX.out.ends, ints_len] at hre
                    have hF2 := hF.setE hb ⟨Ae, ce, rfl, hre⟩
                    refine hK.out _ _ ⟨(blk_cell hF2.x 0).trans rfl, (blk_cell hF2.x 1).trans rfl, (blk_cell hF2.x 2).trans rfl, (blk_cell hF2.x 3).trans rfl, (blk_cell hF2.x 4).trans rfl, (blk_cell hF2.x 5).trans rfl, trivial⟩ (fun hHeld => ?_)
                    rw [HCX.out.ends, ints_len]
                    exact J2101 (.slice Ae cx.ends.length ce, s2, s3, s4) wn hF2
                  ·
                    refine Kd.R_make_step (Kd.int .i64) (w0 := wb) wb.heap.size 3 (by rfl) rfl 37 (.tmp 27) (.tmp 27) rfl (up.length : Int) rfl rfl und37 (.int .i64 0) 8 inf3 rfl (by decide) (by decide) (0 : Int) (ok := fun _ => True) (okp := fun _ => False) (by exact rfl) (fun _ h => h.elim) trivial (by have := HCX.out.prod; omega) (by have := HCX.out.prod; have := HCX.out.p4; have := HH.out.sm.1; omega) (Below.refl _ _) (Nat.le_refl _) ?_
                    intro vn wn hr hb hg hat
                    obtain ⟨An, cn, en⟩ := Kd.R_slice hr
                    subst en
                    rw [List.length_replicate, Int.toNat_natCast] at hr hat
                    have hF2 := hF.setG hb ⟨An, cn, rfl, hr⟩
                    refine hK.out _ _ ⟨(blk_cell hF2.x 0).trans rfl, (blk_cell hF2.x 1).trans rfl, (blk_cell hF2.x 2).trans rfl, (blk_cell hF2.x 3).trans rfl, (blk_cell hF2.x 4).trans rfl, (blk_cell hF2.x 5).trans rfl, trivial⟩ (fun hHeld => ?_)
                    rw [List.length_replicate, Int.toNat_natCast]
                    exact J1111 (s1, s2, .slice An up.length cn, s4) wn hF2
                case goJ1101 =>
                  refine join_ (σ := Value × Value × Value × Value) 6 #[true, true, true, true, true, false, true, true, true, true, true, true, false, false, false, false, false] (fun s => [(20, .int .u64 (cutW wd sa)), (26, s.2.1), (28, s.2.2.1)]) (fun s wb => NW w6 w.heap.size #[.int .i64 v, .int .i64 wd, .int .i64 cp, .int .i64 pr, .int .u64 sa, .slice A2 up.length C2] A2 C2 up cx.prod up.length cx.ends.length (ints cx.ends) false true true false s.1 s.2.1 s.2.2.1 s.2.2.2 wb) (fun s wb hF => ?contJ1110) (fun J1110 => ?goJ1110)
                  case contJ1110 =>
                    obtain ⟨s1, s2, s3, s4⟩ := s
                    simp only at hF
                    refine norm_ (a' := ?_) ?_ ?_
                    rotate_left
                    · simp only [putAll, Act.put, List.setIfInBounds_toArray, List.set_cons_zero, List.set_cons_succ, i64_w, i32_w]
                      rfl
                    refine two_ (i := 5) (j := 12) (Ni := some 23) (Nj := some 30) #[true, true, true, true, true, true, true, true, true, true, true, true, false, false, false, false, false] #[true, true, true, true, true, false, true, true, true, true, true, true, true, false, false, false, false] rfl rfl rfl rfl (by kernel_rfl) (by decide) (by decide) (fun K hK => ?_) (fun K hK => ?_)
                    ·
                      refine goes_ Tryd.func44 (by kernel_rfl) rfl #[.slice A2 up.length C2] (by rfl) rfl rfl (by (try simp only [List.map_toArray, List.map_cons, List.map_nil]); first | done | rfl) ?_
                      with_reducible refine (ends_okR hF.r HCX.out.ck hF.t).mono ?_
                      rintro q wn ⟨Ae, ce, rfl, hre, hb⟩
                      refine ⟨_, rfl, ?_⟩
                      rw [HCX.out.ends, ints_len] at hre
                      have hF2 := hF.setE hb ⟨Ae, ce, rfl, hre⟩
                      refine hK.out _ _ ⟨(blk_cell hF2.x 0).trans rfl, (blk_cell hF2.x 1).trans rfl, (blk_cell hF2.x 2).trans rfl, (blk_cell hF2.x 3).trans rfl, (blk_cell hF2.x 4).trans rfl, (blk_cell hF2.x 5).trans rfl, trivial⟩ (fun hHeld => ?_)
                      rw [HCX.out.ends, ints_len]
                      exact J2110 (.slice Ae cx.ends.length ce, s2, s3, s4) wn hF2
                    ·
                      refine Kd.R_make_step (Kd.int .i64) (w0 := wb) wb.heap.size 3 (by rfl) rfl 37 (.tmp 29) (.tmp 29) rfl (up.length : Int) rfl rfl und37 (.int .i64 0) 8 inf3 rfl (by decide) (by decide) (0 : Int) (ok := fun _ => True) (okp := fun _ => False) (by exact rfl) (fun _ h => h.elim) trivial (by have := HCX.out.prod; omega) (by have := HCX.out.prod; have := HCX.out.p4; have := HH.out.sm.1; omega) (Below.refl _ _) (Nat.le_refl _) ?_
                      intro vn wn hr hb hg hat
                      obtain ⟨An, cn, en⟩ := Kd.R_slice hr
                      subst en
                      rw [List.length_replicate, Int.toNat_natCast] at hr hat
                      have hF2 := hF.setS hb ⟨An, cn, rfl, hr⟩
                      refine hK.out _ _ ⟨(blk_cell hF2.x 0).trans rfl, (blk_cell hF2.x 1).trans rfl, (blk_cell hF2.x 2).trans rfl, (blk_cell hF2.x 3).trans rfl, (blk_cell hF2.x 4).trans rfl, (blk_cell hF2.x 5).trans rfl, trivial⟩ (fun hHeld => ?_)
                      rw [List.length_replicate, Int.toNat_natCast]
                      exact J1111 (s1, s2, s3, .slice An up.length cn) wn hF2
                  case goJ1110 =>
                    refine join_ (σ := Value × Value × Value × Value) 6 #[true, true, true, true, true, true, true, true, false, true, false, true, true, false, false, false, false] (fun s => [(20, .int .u64 (cutW wd sa)), (23, s.1), (30, s.2.2.2)]) (fun s wb => NW w6 w.heap.size #[.int .i64 v, .int .i64 wd, .int .i64 cp, .int .i64 pr, .int .u64 sa, .slice A2 up.length C2] A2 C2 up cx.prod up.length cx.ends.length (ints cx.ends) true false false true s.1 s.2.1 s.2.2.1 s.2.2.2 wb) (fun s wb hF => ?contJ2001) (fun J2001 => ?goJ2001)
                    case contJ2001 =>
                      obtain ⟨s1, s2, s3, s4⟩ := s
                      simp only at hF
                      refine norm_ (a' := ?_) ?_ ?_
                      rotate_left
                      · simp only [putAll, Act.put, List.setIfInBounds_toArray, List.set_cons_zero, List.set_cons_succ, i64_w, i32_w]
                        rfl
                      refine two_ (i := 8) (j := 10) (Ni := some 26) (Nj := some 28) #[true, true, true, true, true, true, true, true, true, true, false, true, true, false, false, false, false] #[true, true, true, true, true, true, true, true, false, true, true, true, true, false, false, false, false] rfl rfl rfl rfl (by kernel_rfl) (by decide) (by decide) (fun K hK => ?_) (fun K hK => ?_)
                      ·
                        refine Kd.R_make_step (Kd.raw 4) (w0 := wb) wb.heap.size 62 (by rfl) rfl 98 (.tmp 25) (.tmp 25) rfl pr rfl rfl und98 (.agg #[.int .i64 0, .int .i64 0, .int .i64 0, .bool false]) 32 inf62 rfl (by decide) (by decide) [.int .i64 0, .int .i64 0, .int .i64 0, .bool false] (ok := fun _ => True) (okp := fun _ => False) (by exact ⟨rfl, rfl, fun u hu => by simp only [Value.cells, List.mem_cons, List.not_mem_nil, or_false] at hu; rcases hu with rfl | rfl | rfl | rfl <;> rfl⟩) (fun _ h => h.elim) trivial (by have := HCX.out.prod; omega) (by have := HCX.out.prod; have := HCX.out.p4; have := HH.out.sm.1; omega) (Below.refl _ _) (Nat.le_refl _) ?_
                        intro vn wn hr hb hg hat
                        obtain ⟨An, cn, en⟩ := Kd.R_slice hr
                        subst en
                        rw [List.length_replicate, show (pr).toNat = cx.prod by have := HCX.out.prod; omega] at hr hat
                        have hF2 := hF.setH hb ⟨An, cn, rfl, hr⟩
                        refine hK.out _ _ ⟨(blk_cell hF2.x 0).trans rfl, (blk_cell hF2.x 1).trans rfl, (blk_cell hF2.x 2).trans rfl, (blk_cell hF2.x 3).trans rfl, (blk_cell hF2.x 4).trans rfl, (blk_cell hF2.x 5).trans rfl, trivial⟩ (fun hHeld => ?_)
                        rw [List.length_replicate, show (pr).toNat = cx.prod by have := HCX.out.prod; omega]
                        exact J2101 (s1, .slice An cx.prod cn, s3, s4) wn hF2
                      ·
                        refine Kd.R_make_step (Kd.int .i64) (w0 := wb) wb.heap.size 3 (by rfl) rfl 37 (.tmp 27) (.tmp 27) rfl (up.length : Int) rfl rfl und37 (.int .i64 0) 8 inf3 rfl (by decide) (by decide) (0 : Int) (ok := fun _ => True) (okp := fun _ => False) (by exact rfl) (fun _ h => h.elim) trivial (by have := HCX.out.prod; omega) (by have := HCX.out.prod; have := HCX.out.p4; have := HH.out.sm.1; omega) (Below.refl _ _) (Nat.le_refl _) ?_
                        intro vn wn hr hb hg hat
                        obtain ⟨An, cn, en⟩ := Kd.R_slice hr
                        subst en
                        rw [List.length_replicate, Int.toNat_natCast] at hr hat
                        have hF2 := hF.setG hb ⟨An, cn, rfl, hr⟩
                        refine hK.out _ _ ⟨(blk_cell hF2.x 0).trans rfl, (blk_cell hF2.x 1).trans rfl, (blk_cell hF2.x 2).trans rfl, (blk_cell hF2.x 3).trans rfl, (blk_cell hF2.x 4).trans rfl, (blk_cell hF2.x 5).trans rfl, trivial⟩ (fun hHeld => ?_)
                        rw [List.length_replicate, Int.toNat_natCast]
                        exact J2011 (s1, s2, .slice An up.length cn, s4) wn hF2
                    case goJ2001 =>
                      refine join_ (σ := Value × Value × Value × Value) 6 #[true, true, true, true, true, true, true, true, false, true, true, true, false, false, false, false, false] (fun s => [(20, .int .u64 (cutW wd sa)), (23, s.1), (28, s.2.2.1)]) (fun s wb => NW w6 w.heap.size #[.int .i64 v, .int .i64 wd, .int .i64 cp, .int .i64 pr, .int .u64 sa, .slice A2 up.length C2] A2 C2 up cx.prod up.length cx.ends.length (ints cx.ends) true false true false s.1 s.2.1 s.2.2.1 s.2.2.2 wb) (fun s wb hF => ?contJ2010) (fun J2010 => ?goJ2010)
                      case contJ2010 =>
                        obtain ⟨s1, s2, s3, s4⟩ := s
                        simp only at hF
                        refine norm_ (a' := ?_) ?_ ?_
                        rotate_left
                        · simp only [putAll, Act.put, List.setIfInBounds_toArray, List.set_cons_zero, List.set_cons_succ, i64_w, i32_w]
                          rfl
                        refine two_ (i := 8) (j := 12) (Ni := some 26) (Nj := some 30) #[true, true, true, true, true, true, true, true, true, true, true, true, false, false, false, false, false] #[true, true, true, true, true, true, true, true, false, true, true, true, true, false, false, false, false] rfl rfl rfl rfl (by kernel_rfl) (by decide) (by decide) (fun K hK => ?_) (fun K hK => ?_)
                        ·
                          refine Kd.R_make_step (Kd.raw 4) (w0 := wb) wb.heap.size 62 (by rfl) rfl 98 (.tmp 25) (.tmp 25) rfl pr rfl rfl und98 (.agg #[.int .i64 0, .int .i64 0, .int .i64 0, .bool false]) 32 inf62 rfl (by decide) (by decide) [.int .i64 0, .int .i64 0, .int .i64 0, .bool false] (ok := fun _ => True) (okp := fun _ => False) (by exact ⟨rfl, rfl, fun u hu => by simp only [Value.cells, List.mem_cons, List.not_mem_nil, or_false] at hu; rcases hu with rfl | rfl | rfl | rfl <;> rfl⟩) (fun _ h => h.elim) trivial (by have := HCX.out.prod; omega) (by have := HCX.out.prod; have := HCX.out.p4; have := HH.out.sm.1; omega) (Below.refl _ _) (Nat.le_refl _) ?_
                          intro vn wn hr hb hg hat
                          obtain ⟨An, cn, en⟩ := Kd.R_slice hr
                          subst en
                          rw [List.length_replicate, show (pr).toNat = cx.prod by have := HCX.out.prod; omega] at hr hat
                          have hF2 := hF.setH hb ⟨An, cn, rfl, hr⟩
                          refine hK.out _ _ ⟨(blk_cell hF2.x 0).trans rfl, (blk_cell hF2.x 1).trans rfl, (blk_cell hF2.x 2).trans rfl, (blk_cell hF2.x 3).trans rfl, (blk_cell hF2.x 4).trans rfl, (blk_cell hF2.x 5).trans rfl, trivial⟩ (fun hHeld => ?_)
                          rw [List.length_replicate, show (pr).toNat = cx.prod by have := HCX.out.prod; omega]
                          exact J2110 (s1, .slice An cx.prod cn, s3, s4) wn hF2
                        ·
                          refine Kd.R_make_step (Kd.int .i64) (w0 := wb) wb.heap.size 3 (by rfl) rfl 37 (.tmp 29) (.tmp 29) rfl (up.length : Int) rfl rfl und37 (.int .i64 0) 8 inf3 rfl (by decide) (by decide) (0 : Int) (ok := fun _ => True) (okp := fun _ => False) (by exact rfl) (fun _ h => h.elim) trivial (by have := HCX.out.prod; omega) (by have := HCX.out.prod; have := HCX.out.p4; have := HH.out.sm.1; omega) (Below.refl _ _) (Nat.le_refl _) ?_
                          intro vn wn hr hb hg hat
                          obtain ⟨An, cn, en⟩ := Kd.R_slice hr
                          subst en
                          rw [List.length_replicate, Int.toNat_natCast] at hr hat
                          have hF2 := hF.setS hb ⟨An, cn, rfl, hr⟩
                          refine hK.out _ _ ⟨(blk_cell hF2.x 0).trans rfl, (blk_cell hF2.x 1).trans rfl, (blk_cell hF2.x 2).trans rfl, (blk_cell hF2.x 3).trans rfl, (blk_cell hF2.x 4).trans rfl, (blk_cell hF2.x 5).trans rfl, trivial⟩ (fun hHeld => ?_)
                          rw [List.length_replicate, Int.toNat_natCast]
                          exact J2011 (s1, s2, s3, .slice An up.length cn) wn hF2
                      case goJ2010 =>
                        refine join_ (σ := Value × Value × Value × Value) 6 #[true, true, true, true, true, true, true, true, true, true, false, true, false, false, false, false, false] (fun s => [(20, .int .u64 (cutW wd sa)), (23, s.1), (26, s.2.1)]) (fun s wb => NW w6 w.heap.size #[.int .i64 v, .int .i64 wd, .int .i64 cp, .int .i64 pr, .int .u64 sa, .slice A2 up.length C2] A2 C2 up cx.prod up.length cx.ends.length (ints cx.ends) true true false false s.1 s.2.1 s.2.2.1 s.2.2.2 wb) (fun s wb hF => ?contJ2100) (fun J2100 => ?goJ2100)
                        case contJ2100 =>
                          obtain ⟨s1, s2, s3, s4⟩ := s
                          simp only at hF
                          refine norm_ (a' := ?_) ?_ ?_
                          rotate_left
                          · simp only [putAll, Act.put, List.setIfInBounds_toArray, List.set_cons_zero, List.set_cons_succ, i64_w, i32_w]
                            rfl
                          refine two_ (i := 10) (j := 12) (Ni := some 28) (Nj := some 30) #[true, true, true, true, true, true, true, true, true, true, true, true, false, false, false, false, false] #[true, true, true, true, true, true, true, true, true, true, false, true, true, false, false, false, false] rfl rfl rfl rfl (by kernel_rfl) (by decide) (by decide) (fun K hK => ?_) (fun K hK => ?_)
                          ·
                            refine Kd.R_make_step (Kd.int .i64) (w0 := wb) wb.heap.size 3 (by rfl) rfl 37 (.tmp 27) (.tmp 27) rfl (up.length : Int) rfl rfl und37 (.int .i64 0) 8 inf3 rfl (by decide) (by decide) (0 : Int) (ok := fun _ => True) (okp := fun _ => False) (by exact rfl) (fun _ h => h.elim) trivial (by have := HCX.out.prod; omega) (by have := HCX.out.prod; have := HCX.out.p4; have := HH.out.sm.1; omega) (Below.refl _ _) (Nat.le_refl _) ?_
                            intro vn wn hr hb hg hat
                            obtain ⟨An, cn, en⟩ := Kd.R_slice hr
                            subst en
                            rw [List.length_replicate, Int.toNat_natCast] at hr hat
                            have hF2 := hF.setG hb ⟨An, cn, rfl, hr⟩
                            refine hK.out _ _ ⟨(blk_cell hF2.x 0).trans rfl, (blk_cell hF2.x 1).trans rfl, (blk_cell hF2.x 2).trans rfl, (blk_cell hF2.x 3).trans rfl, (blk_cell hF2.x 4).trans rfl, (blk_cell hF2.x 5).trans rfl, trivial⟩ (fun hHeld => ?_)
                            rw [List.length_replicate, Int.toNat_natCast]
                            exact J2110 (s1, s2, .slice An up.length cn, s4) wn hF2
                          ·
                            refine Kd.R_make_step (Kd.int .i64) (w0 := wb) wb.heap.size 3 (by rfl) rfl 37 (.tmp 29) (.tmp 29) rfl (up.length : Int) rfl rfl und37 (.int .i64 0) 8 inf3 rfl (by decide) (by decide) (0 : Int) (ok := fun _ => True) (okp := fun _ => False) (by exact rfl) (fun _ h => h.elim) trivial (by have := HCX.out.prod; omega) (by have := HCX.out.prod; have := HCX.out.p4; have := HH.out.sm.1; omega) (Below.refl _ _) (Nat.le_refl _) ?_
                            intro vn wn hr hb hg hat
                            obtain ⟨An, cn, en⟩ := Kd.R_slice hr
                            subst en
                            rw [List.length_replicate, Int.toNat_natCast] at hr hat
                            have hF2 := hF.setS hb ⟨An, cn, rfl, hr⟩
                            refine hK.out _ _ ⟨(blk_cell hF2.x 0).trans rfl, (blk_cell hF2.x 1).trans rfl, (blk_cell hF2.x 2).trans rfl, (blk_cell hF2.x 3).trans rfl, (blk_cell hF2.x 4).trans rfl, (blk_cell hF2.x 5).trans rfl, trivial⟩ (fun hHeld => ?_)
                            rw [List.length_replicate, Int.toNat_natCast]
                            exact J2101 (s1, s2, s3, .slice An up.length cn) wn hF2
                        case goJ2100 =>
                          refine join_ (σ := Value × Value × Value × Value) 7 #[true, true, false, true, true, false, true, true, false, true, true, true, true, false, false, false, false] (fun s => [(28, s.2.2.1), (30, s.2.2.2)]) (fun s wb => NW w6 w.heap.size #[.int .i64 v, .int .i64 wd, .int .i64 cp, .int .i64 pr, .int .u64 sa, .slice A2 up.length C2] A2 C2 up cx.prod up.length cx.ends.length (ints cx.ends) false false true true s.1 s.2.1 s.2.2.1 s.2.2.2 wb) (fun s wb hF => ?contJ0011) (fun J0011 => ?goJ0011)
                          case contJ0011 =>
                            obtain ⟨s1, s2, s3, s4⟩ := s
                            simp only at hF
                            refine norm_ (a' := ?_) ?_ ?_
                            rotate_left
                            · simp only [putAll, Act.put, List.setIfInBounds_toArray, List.set_cons_zero, List.set_cons_succ, i64_w, i32_w]
                              rfl
                            refine two_ (i := 2) (j := 8) (Ni := some 20) (Nj := some 26) #[true, true, true, true, true, false, true, true, false, true, true, true, true, false, false, false, false] #[true, true, false, true, true, false, true, true, true, true, true, true, true, false, false, false, false] rfl rfl rfl rfl (by kernel_rfl) (by decide) (by decide) (fun K hK => ?_) (fun K hK => ?_)
                            ·
                              refine goes_ Tryd.func60 (by kernel_rfl) rfl #[.agg #[.int .i64 v, .int .i64 wd, .int .i64 cp, .int .i64 pr, .int .u64 sa, .slice A2 up.length C2]] (by rfl) rfl rfl (by (try simp only [List.map_toArray, List.map_cons, List.map_nil]); first | done | rfl) ?_
                              with_reducible refine (pstart hF.r HCK.out HU.out).mono ?_
                              rintro q wn ⟨rfl, hb⟩
                              refine ⟨_, rfl, ?_⟩
                              have hF2 := hF.below hb
                              refine hK.out _ _ ⟨(blk_cell hF2.x 0).trans rfl, (blk_cell hF2.x 1).trans rfl, (blk_cell hF2.x 2).trans rfl, (blk_cell hF2.x 3).trans rfl, (blk_cell hF2.x 4).trans rfl, (blk_cell hF2.x 5).trans rfl, trivial⟩ (fun hHeld => ?_)
                              exact J1011 (s1, s2, s3, s4) wn hF2
                            ·
                              refine Kd.R_make_step (Kd.raw 4) (w0 := wb) wb.heap.size 62 (by rfl) rfl 98 (.tmp 25) (.tmp 25) rfl pr rfl rfl und98 (.agg #[.int .i64 0, .int .i64 0, .int .i64 0, .bool false]) 32 inf62 rfl (by decide) (by decide) [.int .i64 0, .int .i64 0, .int .i64 0, .bool false] (ok := fun _ => True) (okp := fun _ => False) (by exact ⟨rfl, rfl, fun u hu => by simp only [Value.cells, List.mem_cons, List.not_mem_nil, or_false] at hu; rcases hu with rfl | rfl | rfl | rfl <;> rfl⟩) (fun _ h => h.elim) trivial (by have := HCX.out.prod; omega) (by have := HCX.out.prod; have := HCX.out.p4; have := HH.out.sm.1; omega) (Below.refl _ _) (Nat.le_refl _) ?_
                              intro vn wn hr hb hg hat
                              obtain ⟨An, cn, en⟩ := Kd.R_slice hr
                              subst en
                              rw [List.length_replicate, show (pr).toNat = cx.prod by have := HCX.out.prod; omega] at hr hat
                              have hF2 := hF.setH hb ⟨An, cn, rfl, hr⟩
                              refine hK.out _ _ ⟨(blk_cell hF2.x 0).trans rfl, (blk_cell hF2.x 1).trans rfl, (blk_cell hF2.x 2).trans rfl, (blk_cell hF2.x 3).trans rfl, (blk_cell hF2.x 4).trans rfl, (blk_cell hF2.x 5).trans rfl, trivial⟩ (fun hHeld => ?_)
                              rw [List.length_replicate, show (pr).toNat = cx.prod by have := HCX.out.prod; omega]
                              exact J0111 (s1, .slice An cx.prod cn, s3, s4) wn hF2
                          case goJ0011 =>
                            refine join_ (σ := Value × Value × Value × Value) 7 #[true, true, false, true, true, false, true, true, true, true, false, true, true, false, false, false, false] (fun s => [(26, s.2.1), (30, s.2.2.2)]) (fun s wb => NW w6 w.heap.size #[.int .i64 v, .int .i64 wd, .int .i64 cp, .int .i64 pr, .int .u64 sa, .slice A2 up.length C2] A2 C2 up cx.prod up.length cx.ends.length (ints cx.ends) false true false true s.1 s.2.1 s.2.2.1 s.2.2.2 wb) (fun s wb hF => ?contJ0101) (fun J0101 => ?goJ0101)
                            case contJ0101 =>
                              obtain ⟨s1, s2, s3, s4⟩ := s
                              simp only at hF
                              refine norm_ (a' := ?_) ?_ ?_
                              rotate_left
                              · simp only [putAll, Act.put, List.setIfInBounds_toArray, List.set_cons_zero, List.set_cons_succ, i64_w, i32_w]
                                rfl
                              refine two_ (i := 2) (j := 10) (Ni := some 20) (Nj := some 28) #[true, true, true, true, true, false, true, true, true, true, false, true, true, false, false, false, false] #[true, true, false, true, true, false, true, true, true, true, true, true, true, false, false, false, false] rfl rfl rfl rfl (by kernel_rfl) (by decide) (by decide) (fun K hK => ?_) (fun K hK => ?_)
                              ·
                                refine goes_ Tryd.func60 (by kernel_rfl) rfl #[.agg #[.int .i64 v, .int .i64 wd, .int .i64 cp, .int .i64 pr, .int .u64 sa, .slice A2 up.length C2]] (by rfl) rfl rfl (by (try simp only [List.map_toArray, List.map_cons, List.map_nil]); first | done | rfl) ?_
                                with_reducible refine (pstart hF.r HCK.out HU.out).mono ?_
                                rintro q wn ⟨rfl, hb⟩
                                refine ⟨_, rfl, ?_⟩
                                have hF2 := hF.below hb
                                refine hK.out _ _ ⟨(blk_cell hF2.x 0).trans rfl, (blk_cell hF2.x 1).trans rfl, (blk_cell hF2.x 2).trans rfl, (blk_cell hF2.x 3).trans rfl, (blk_cell hF2.x 4).trans rfl, (blk_cell hF2.x 5).trans rfl, trivial⟩ (fun hHeld => ?_)
                                exact J1101 (s1, s2, s3, s4) wn hF2
                              ·
                                refine Kd.R_make_step (Kd.int .i64) (w0 := wb) wb.heap.size 3 (by rfl) rfl 37 (.tmp 27) (.tmp 27) rfl (up.length : Int) rfl rfl und37 (.int .i64 0) 8 inf3 rfl (by decide) (by decide) (0 : Int) (ok := fun _ => True) (okp := fun _ => False) (by exact rfl) (fun _ h => h.elim) trivial (by have := HCX.out.prod; omega) (by have := HCX.out.prod; have := HCX.out.p4; have := HH.out.sm.1; omega) (Below.refl _ _) (Nat.le_refl _) ?_
                                intro vn wn hr hb hg hat
                                obtain ⟨An, cn, en⟩ := Kd.R_slice hr
                                subst en
                                rw [List.length_replicate, Int.toNat_natCast] at hr hat
                                have hF2 := hF.setG hb ⟨An, cn, rfl, hr⟩
                                refine hK.out _ _ ⟨(blk_cell hF2.x 0).trans rfl, (blk_cell hF2.x 1).trans rfl, (blk_cell hF2.x 2).trans rfl, (blk_cell hF2.x 3).trans rfl, (blk_cell hF2.x 4).trans rfl, (blk_cell hF2.x 5).trans rfl, trivial⟩ (fun hHeld => ?_)
                                rw [List.length_replicate, Int.toNat_natCast]
                                exact J0111 (s1, s2, .slice An up.length cn, s4) wn hF2
                            case goJ0101 =>
                              refine join_ (σ := Value × Value × Value × Value) 7 #[true, true, false, true, true, false, true, true, true, true, true, true, false, false, false, false, false] (fun s => [(26, s.2.1), (28, s.2.2.1)]) (fun s wb => NW w6 w.heap.size #[.int .i64 v, .int .i64 wd, .int .i64 cp, .int .i64 pr, .int .u64 sa, .slice A2 up.length C2] A2 C2 up cx.prod up.length cx.ends.length (ints cx.ends) false true true false s.1 s.2.1 s.2.2.1 s.2.2.2 wb) (fun s wb hF => ?contJ0110) (fun J0110 => ?goJ0110)
                              case contJ0110 =>
                                obtain ⟨s1, s2, s3, s4⟩ := s
                                simp only at hF
                                refine norm_ (a' := ?_) ?_ ?_
                                rotate_left
                                · simp only [putAll, Act.put, List.setIfInBounds_toArray, List.set_cons_zero, List.set_cons_succ, i64_w, i32_w]
                                  rfl
                                refine two_ (i := 2) (j := 12) (Ni := some 20) (Nj := some 30) #[true, true, true, true, true, false, true, true, true, true, true, true, false, false, false, false, false] #[true, true, false, true, true, false, true, true, true, true, true, true, true, false, false, false, false] rfl rfl rfl rfl (by kernel_rfl) (by decide) (by decide) (fun K hK => ?_) (fun K hK => ?_)
                                ·
                                  refine goes_ Tryd.func60 (by kernel_rfl) rfl #[.agg #[.int .i64 v, .int .i64 wd, .int .i64 cp, .int .i64 pr, .int .u64 sa, .slice A2 up.length C2]] (by rfl) rfl rfl (by (try simp only [List.map_toArray, List.map_cons, List.map_nil]); first | done | rfl) ?_
                                  with_reducible refine (pstart hF.r HCK.out HU.out).mono ?_
                                  rintro q wn ⟨rfl, hb⟩
                                  refine ⟨_, rfl, ?_⟩
                                  have hF2 := hF.below hb
                                  refine hK.out _ _ ⟨(blk_cell hF2.x 0).trans rfl, (blk_cell hF2.x 1).trans rfl, (blk_cell hF2.x 2).trans rfl, (blk_cell hF2.x 3).trans rfl, (blk_cell hF2.x 4).trans rfl, (blk_cell hF2.x 5).trans rfl, trivial⟩ (fun hHeld => ?_)
                                  exact J1110 (s1, s2, s3, s4) wn hF2
                                ·
                                  refine Kd.R_make_step (Kd.int .i64) (w0 := wb) wb.heap.size 3 (by rfl) rfl 37 (.tmp 29) (.tmp 29) rfl (up.length : Int) rfl rfl und37 (.int .i64 0) 8 inf3 rfl (by decide) (by decide) (0 : Int) (ok := fun _ => True) (okp := fun _ => False) (by exact rfl) (fun _ h => h.elim) trivial (by have := HCX.out.prod; omega) (by have := HCX.out.prod; have := HCX.out.p4; have := HH.out.sm.1; omega) (Below.refl _ _) (Nat.le_refl _) ?_
                                  intro vn wn hr hb hg hat
                                  obtain ⟨An, cn, en⟩ := Kd.R_slice hr
                                  subst en
                                  rw [List.length_replicate, Int.toNat_natCast] at hr hat
                                  have hF2 := hF.setS hb ⟨An, cn, rfl, hr⟩
                                  refine hK.out _ _ ⟨(blk_cell hF2.x 0).trans rfl, (blk_cell hF2.x 1).trans rfl, (blk_cell hF2.x 2).trans rfl, (blk_cell hF2.x 3).trans rfl, (blk_cell hF2.x 4).trans rfl, (blk_cell hF2.x 5).trans rfl, trivial⟩ (fun hHeld => ?_)
                                  rw [List.length_replicate, Int.toNat_natCast]
                                  exact J0111 (s1, s2, s3, .slice An up.length cn) wn hF2
                              case goJ0110 =>
                                refine join_ (σ := Value × Value × Value × Value) 7 #[true, true, true, true, true, false, true, true, false, true, false, true, true, false, false, false, false] (fun s => [(20, .int .u64 (cutW wd sa)), (30, s.2.2.2)]) (fun s wb => NW w6 w.heap.size #[.int .i64 v, .int .i64 wd, .int .i64 cp, .int .i64 pr, .int .u64 sa, .slice A2 up.length C2] A2 C2 up cx.prod up.length cx.ends.length (ints cx.ends) false false false true s.1 s.2.1 s.2.2.1 s.2.2.2 wb) (fun s wb hF => ?contJ1001) (fun J1001 => ?goJ1001)
                                case contJ1001 =>
                                  obtain ⟨s1, s2, s3, s4⟩ := s
                                  simp only at hF
                                  refine norm_ (a' := ?_) ?_ ?_
                                  rotate_left
                                  · simp only [putAll, Act.put, List.setIfInBounds_toArray, List.set_cons_zero, List.set_cons_succ, i64_w, i32_w]
                                    rfl
                                  refine three_ (i := 5) (j := 8) (k := 10) (Ni := some 23) (Nj := some 26) (Nk := some 28) #[true, true, true, true, true, true, true, true, false, true, false, true, true, false, false, false, false] #[true, true, true, true, true, false, true, true, true, true, false, true, true, false, false, false, false] #[true, true, true, true, true, false, true, true, false, true, true, true, true, false, false, false, false] rfl rfl rfl rfl rfl rfl (by kernel_rfl) (by decide) (by decide) (by decide) (fun K hK => ?_) (fun K hK => ?_) (fun K hK => ?_)
                                  ·
                                    refine goes_ Tryd.func44 (by kernel_rfl) rfl #[.slice A2 up.length C2] (by rfl) rfl rfl (by (try simp only [List.map_toArray, List.map_cons, List.map_nil]); first | done | rfl) ?_
                                    with_reducible refine (ends_okR hF.r HCX.out.ck hF.t).mono ?_
                                    rintro q wn ⟨Ae, ce, rfl, hre, hb⟩
                                    refine ⟨_, rfl, ?_⟩
                                    rw [HCX.out.ends, ints_len] at hre
                                    have hF2 := hF.setE hb ⟨Ae, ce, rfl, hre⟩
                                    refine hK.out _ _ ⟨(blk_cell hF2.x 0).trans rfl, (blk_cell hF2.x 1).trans rfl, (blk_cell hF2.x 2).trans rfl, (blk_cell hF2.x 3).trans rfl, (blk_cell hF2.x 4).trans rfl, (blk_cell hF2.x 5).trans rfl, trivial⟩ (fun hHeld => ?_)
                                    rw [HCX.out.ends, ints_len]
                                    exact J2001 (.slice Ae cx.ends.length ce, s2, s3, s4) wn hF2
                                  ·
                                    refine Kd.R_make_step (Kd.raw 4) (w0 := wb) wb.heap.size 62 (by rfl) rfl 98 (.tmp 25) (.tmp 25) rfl pr rfl rfl und98 (.agg #[.int .i64 0, .int .i64 0, .int .i64 0, .bool false]) 32 inf62 rfl (by decide) (by decide) [.int .i64 0, .int .i64 0, .int .i64 0, .bool false] (ok := fun _ => True) (okp := fun _ => False) (by exact ⟨rfl, rfl, fun u hu => by simp only [Value.cells, List.mem_cons, List.not_mem_nil, or_false] at hu; rcases hu with rfl | rfl | rfl | rfl <;> rfl⟩) (fun _ h => h.elim) trivial (by have := HCX.out.prod; omega) (by have := HCX.out.prod; have := HCX.out.p4; have := HH.out.sm.1; omega) (Below.refl _ _) (Nat.le_refl _) ?_
                                    intro vn wn hr hb hg hat
                                    obtain ⟨An, cn, en⟩ := Kd.R_slice hr
                                    subst en
                                    rw [List.length_replicate, show (pr).toNat = cx.prod by have := HCX.out.prod; omega] at hr hat
                                    have hF2 := hF.setH hb ⟨An, cn, rfl, hr⟩
                                    refine hK.out _ _ ⟨(blk_cell hF2.x 0).trans rfl, (blk_cell hF2.x 1).trans rfl, (blk_cell hF2.x 2).trans rfl, (blk_cell hF2.x 3).trans rfl, (blk_cell hF2.x 4).trans rfl, (blk_cell hF2.x 5).trans rfl, trivial⟩ (fun hHeld => ?_)
                                    rw [List.length_replicate, show (pr).toNat = cx.prod by have := HCX.out.prod; omega]
                                    exact J1101 (s1, .slice An cx.prod cn, s3, s4) wn hF2
                                  ·
                                    refine Kd.R_make_step (Kd.int .i64) (w0 := wb) wb.heap.size 3 (by rfl) rfl 37 (.tmp 27) (.tmp 27) rfl (up.length : Int) rfl rfl und37 (.int .i64 0) 8 inf3 rfl (by decide) (by decide) (0 : Int) (ok := fun _ => True) (okp := fun _ => False) (by exact rfl) (fun _ h => h.elim) trivial (by have := HCX.out.prod; omega) (by have := HCX.out.prod; have := HCX.out.p4; have := HH.out.sm.1; omega) (Below.refl _ _) (Nat.le_refl _) ?_
                                    intro vn wn hr hb hg hat
                                    obtain ⟨An, cn, en⟩ := Kd.R_slice hr
                                    subst en
                                    rw [List.length_replicate, Int.toNat_natCast] at hr hat
                                    have hF2 := hF.setG hb ⟨An, cn, rfl, hr⟩
                                    refine hK.out _ _ ⟨(blk_cell hF2.x 0).trans rfl, (blk_cell hF2.x 1).trans rfl, (blk_cell hF2.x 2).trans rfl, (blk_cell hF2.x 3).trans rfl, (blk_cell hF2.x 4).trans rfl, (blk_cell hF2.x 5).trans rfl, trivial⟩ (fun hHeld => ?_)
                                    rw [List.length_replicate, Int.toNat_natCast]
                                    exact J1011 (s1, s2, .slice An up.length cn, s4) wn hF2
                                case goJ1001 =>
                                  refine join_ (σ := Value × Value × Value × Value) 7 #[true, true, true, true, true, false, true, true, false, true, true, true, false, false, false, false, false] (fun s => [(20, .int .u64 (cutW wd sa)), (28, s.2.2.1)]) (fun s wb => NW w6 w.heap.size #[.int .i64 v, .int .i64 wd, .int .i64 cp, .int .i64 pr, .int .u64 sa, .slice A2 up.length C2] A2 C2 up cx.prod up.length cx.ends.length (ints cx.ends) false false true false s.1 s.2.1 s.2.2.1 s.2.2.2 wb) (fun s wb hF => ?contJ1010) (fun J1010 => ?goJ1010)
                                  case contJ1010 =>
                                    obtain ⟨s1, s2, s3, s4⟩ := s
                                    simp only at hF
                                    refine norm_ (a' := ?_) ?_ ?_
                                    rotate_left
                                    · simp only [putAll, Act.put, List.setIfInBounds_toArray, List.set_cons_zero, List.set_cons_succ, i64_w, i32_w]
                                      rfl
                                    refine three_ (i := 5) (j := 8) (k := 12) (Ni := some 23) (Nj := some 26) (Nk := some 30) #[true, true, true, true, true, true, true, true, false, true, true, true, false, false, false, false, false] #[true, true, true, true, true, false, true, true, true, true, true, true, false, false, false, false, false] #[true, true, true, true, true, false, true, true, false, true, true, true, true, false, false, false, false] rfl rfl rfl rfl rfl rfl (by kernel_rfl) (by decide) (by decide) (by decide) (fun K hK => ?_) (fun K hK => ?_) (fun K hK => ?_)
                                    ·
                                      refine goes_ Tryd.func44 (by kernel_rfl) rfl #[.slice A2 up.length C2] (by rfl) rfl rfl (by (try simp only [List.map_toArray, List.map_cons, List.map_nil]); first | done | rfl) ?_
                                      with_reducible refine (ends_okR hF.r HCX.out.ck hF.t).mono ?_
                                      rintro q wn ⟨Ae, ce, rfl, hre, hb⟩
                                      refine ⟨_, rfl, ?_⟩
                                      rw [HCX.out.ends, ints_len] at hre
                                      have hF2 := hF.setE hb ⟨Ae, ce, rfl, hre⟩
                                      refine hK.out _ _ ⟨(blk_cell hF2.x 0).trans rfl, (blk_cell hF2.x 1).trans rfl, (blk_cell hF2.x 2).trans rfl, (blk_cell hF2.x 3).trans rfl, (blk_cell hF2.x 4).trans rfl, (blk_cell hF2.x 5).trans rfl, trivial⟩ (fun hHeld => ?_)
                                      rw [HCX.out.ends, ints_len]
                                      exact J2010 (.slice Ae cx.ends.length ce, s2, s3, s4) wn hF2
                                    ·
                                      refine Kd.R_make_step (Kd.raw 4) (w0 := wb) wb.heap.size 62 (by rfl) rfl 98 (.tmp 25) (.tmp 25) rfl pr rfl rfl und98 (.agg #[.int .i64 0, .int .i64 0, .int .i64 0, .bool false]) 32 inf62 rfl (by decide) (by decide) [.int .i64 0, .int .i64 0, .int .i64 0, .bool false] (ok := fun _ => True) (okp := fun _ => False) (by exact ⟨rfl, rfl, fun u hu => by simp only [Value.cells, List.mem_cons, List.not_mem_nil, or_false] at hu; rcases hu with rfl | rfl | rfl | rfl <;> rfl⟩) (fun _ h => h.elim) trivial (by have := HCX.out.prod; omega) (by have := HCX.out.prod; have := HCX.out.p4; have := HH.out.sm.1; omega) (Below.refl _ _) (Nat.le_refl _) ?_
                                      intro vn wn hr hb hg hat
                                      obtain ⟨An, cn, en⟩ := Kd.R_slice hr
                                      subst en
                                      rw [List.length_replicate, show (pr).toNat = cx.prod by have := HCX.out.prod; omega] at hr hat
                                      have hF2 := hF.setH hb ⟨An, cn, rfl, hr⟩
                                      refine hK.out _ _ ⟨(blk_cell hF2.x 0).trans rfl, (blk_cell hF2.x 1).trans rfl, (blk_cell hF2.x 2).trans rfl, (blk_cell hF2.x 3).trans rfl, (blk_cell hF2.x 4).trans rfl, (blk_cell hF2.x 5).trans rfl, trivial⟩ (fun hHeld => ?_)
                                      rw [List.length_replicate, show (pr).toNat = cx.prod by have := HCX.out.prod; omega]
                                      exact J1110 (s1, .slice An cx.prod cn, s3, s4) wn hF2
                                    ·
                                      refine Kd.R_make_step (Kd.int .i64) (w0 := wb) wb.heap.size 3 (by rfl) rfl 37 (.tmp 29) (.tmp 29) rfl (up.length : Int) rfl rfl und37 (.int .i64 0) 8 inf3 rfl (by decide) (by decide) (0 : Int) (ok := fun _ => True) (okp := fun _ => False) (by exact rfl) (fun _ h => h.elim) trivial (by have := HCX.out.prod; omega) (by have := HCX.out.prod; have := HCX.out.p4; have := HH.out.sm.1; omega) (Below.refl _ _) (Nat.le_refl _) ?_
                                      intro vn wn hr hb hg hat
                                      obtain ⟨An, cn, en⟩ := Kd.R_slice hr
                                      subst en
                                      rw [List.length_replicate, Int.toNat_natCast] at hr hat
                                      have hF2 := hF.setS hb ⟨An, cn, rfl, hr⟩
                                      refine hK.out _ _ ⟨(blk_cell hF2.x 0).trans rfl, (blk_cell hF2.x 1).trans rfl, (blk_cell hF2.x 2).trans rfl, (blk_cell hF2.x 3).trans rfl, (blk_cell hF2.x 4).trans rfl, (blk_cell hF2.x 5).trans rfl, trivial⟩ (fun hHeld => ?_)
                                      rw [List.length_replicate, Int.toNat_natCast]
                                      exact J1011 (s1, s2, s3, .slice An up.length cn) wn hF2
                                  case goJ1010 =>
                                    refine join_ (σ := Value × Value × Value × Value) 7 #[true, true, true, true, true, false, true, true, true, true, false, true, false, false, false, false, false] (fun s => [(20, .int .u64 (cutW wd sa)), (26, s.2.1)]) (fun s wb => NW w6 w.heap.size #[.int .i64 v, .int .i64 wd, .int .i64 cp, .int .i64 pr, .int .u64 sa, .slice A2 up.length C2] A2 C2 up cx.prod up.length cx.ends.length (ints cx.ends) false true false false s.1 s.2.1 s.2.2.1 s.2.2.2 wb) (fun s wb hF => ?contJ1100) (fun J1100 => ?goJ1100)
                                    case contJ1100 =>
                                      obtain ⟨s1, s2, s3, s4⟩ := s
                                      simp only at hF
                                      refine norm_ (a' := ?_) ?_ ?_
                                      rotate_left
                                      · simp only [putAll, Act.put, List.setIfInBounds_toArray, List.set_cons_zero, List.set_cons_succ, i64_w, i32_w]
                                        rfl
                                      refine three_ (i := 5) (j := 10) (k := 12) (Ni := some 23) (Nj := some 28) (Nk := some 30) #[true, true, true, true, true, true, true, true, true, true, false, true, false, false, false, false, false] #[true, true, true, true, true, false, true, true, true, true, true, true, false, false, false, false, false] #[true, true, true, true, true, false, true, true, true, true, false, true, true, false, false, false, false] rfl rfl rfl rfl rfl rfl (by kernel_rfl) (by decide) (by decide) (by decide) (fun K hK => ?_) (fun K hK => ?_) (fun K hK => ?_)
                                      ·
                                        refine goes_ Tryd.func44 (by kernel_rfl) rfl #[.slice A2 up.length C2] (by rfl) rfl rfl (by (try simp only [List.map_toArray, List.map_cons, List.map_nil]); first | done | rfl) ?_
                                        with_reducible refine (ends_okR hF.r HCX.out.ck hF.t).mono ?_
                                        rintro q wn ⟨Ae, ce, rfl, hre, hb⟩
                                        refine ⟨_, rfl, ?_⟩
                                        rw [HCX.out.ends, ints_len] at hre
                                        have hF2 := hF.setE hb ⟨Ae, ce, rfl, hre⟩
                                        refine hK.out _ _ ⟨(blk_cell hF2.x 0).trans rfl, (blk_cell hF2.x 1).trans rfl, (blk_cell hF2.x 2).trans rfl, (blk_cell hF2.x 3).trans rfl, (blk_cell hF2.x 4).trans rfl, (blk_cell hF2.x 5).trans rfl, trivial⟩ (fun hHeld => ?_)
                                        rw [HCX.out.ends, ints_len]
                                        exact J2100 (.slice Ae cx.ends.length ce, s2, s3, s4) wn hF2
                                      ·
                                        refine Kd.R_make_step (Kd.int .i64) (w0 := wb) wb.heap.size 3 (by rfl) rfl 37 (.tmp 27) (.tmp 27) rfl (up.length : Int) rfl rfl und37 (.int .i64 0) 8 inf3 rfl (by decide) (by decide) (0 : Int) (ok := fun _ => True) (okp := fun _ => False) (by exact rfl) (fun _ h => h.elim) trivial (by have := HCX.out.prod; omega) (by have := HCX.out.prod; have := HCX.out.p4; have := HH.out.sm.1; omega) (Below.refl _ _) (Nat.le_refl _) ?_
                                        intro vn wn hr hb hg hat
                                        obtain ⟨An, cn, en⟩ := Kd.R_slice hr
                                        subst en
                                        rw [List.length_replicate, Int.toNat_natCast] at hr hat
                                        have hF2 := hF.setG hb ⟨An, cn, rfl, hr⟩
                                        refine hK.out _ _ ⟨(blk_cell hF2.x 0).trans rfl, (blk_cell hF2.x 1).trans rfl, (blk_cell hF2.x 2).trans rfl, (blk_cell hF2.x 3).trans rfl, (blk_cell hF2.x 4).trans rfl, (blk_cell hF2.x 5).trans rfl, trivial⟩ (fun hHeld => ?_)
                                        rw [List.length_replicate, Int.toNat_natCast]
                                        exact J1110 (s1, s2, .slice An up.length cn, s4) wn hF2
                                      ·
                                        refine Kd.R_make_step (Kd.int .i64) (w0 := wb) wb.heap.size 3 (by rfl) rfl 37 (.tmp 29) (.tmp 29) rfl (up.length : Int) rfl rfl und37 (.int .i64 0) 8 inf3 rfl (by decide) (by decide) (0 : Int) (ok := fun _ => True) (okp := fun _ => False) (by exact rfl) (fun _ h => h.elim) trivial (by have := HCX.out.prod; omega) (by have := HCX.out.prod; have := HCX.out.p4; have := HH.out.sm.1; omega) (Below.refl _ _) (Nat.le_refl _) ?_
                                        intro vn wn hr hb hg hat
                                        obtain ⟨An, cn, en⟩ := Kd.R_slice hr
                                        subst en
                                        rw [List.length_replicate, Int.toNat_natCast] at hr hat
                                        have hF2 := hF.setS hb ⟨An, cn, rfl, hr⟩
                                        refine hK.out _ _ ⟨(blk_cell hF2.x 0).trans rfl, (blk_cell hF2.x 1).trans rfl, (blk_cell hF2.x 2).trans rfl, (blk_cell hF2.x 3).trans rfl, (blk_cell hF2.x 4).trans rfl, (blk_cell hF2.x 5).trans rfl, trivial⟩ (fun hHeld => ?_)
                                        rw [List.length_replicate, Int.toNat_natCast]
                                        exact J1101 (s1, s2, s3, .slice An up.length cn) wn hF2
                                    case goJ1100 =>
                                      refine join_ (σ := Value × Value × Value × Value) 7 #[true, true, true, true, true, true, true, true, false, true, false, true, false, false, false, false, false] (fun s => [(20, .int .u64 (cutW wd sa)), (23, s.1)]) (fun s wb => NW w6 w.heap.size #[.int .i64 v, .int .i64 wd, .int .i64 cp, .int .i64 pr, .int .u64 sa, .slice A2 up.length C2] A2 C2 up cx.prod up.length cx.ends.length (ints cx.ends) true false false false s.1 s.2.1 s.2.2.1 s.2.2.2 wb) (fun s wb hF => ?contJ2000) (fun J2000 => ?goJ2000)
                                      case contJ2000 =>
                                        obtain ⟨s1, s2, s3, s4⟩ := s
                                        simp only at hF
                                        refine norm_ (a' := ?_) ?_ ?_
                                        rotate_left
                                        · simp only [putAll, Act.put, List.setIfInBounds_toArray, List.set_cons_zero, List.set_cons_succ, i64_w, i32_w]
                                          rfl
                                        refine three_ (i := 8) (j := 10) (k := 12) (Ni := some 26) (Nj := some 28) (Nk := some 30) #[true, true, true, true, true, true, true, true, true, true, false, true, false, false, false, false, false] #[true, true, true, true, true, true, true, true, false, true, true, true, false, false, false, false, false] #[true, true, true, true, true, true, true, true, false, true, false, true, true, false, false, false, false] rfl rfl rfl rfl rfl rfl (by kernel_rfl) (by decide) (by decide) (by decide) (fun K hK => ?_) (fun K hK => ?_) (fun K hK => ?_)
                                        ·
                                          refine Kd.R_make_step (Kd.raw 4) (w0 := wb) wb.heap.size 62 (by rfl) rfl 98 (.tmp 25) (.tmp 25) rfl pr rfl rfl und98 (.agg #[.int .i64 0, .int .i64 0, .int .i64 0, .bool false]) 32 inf62 rfl (by decide) (by decide) [.int .i64 0, .int .i64 0, .int .i64 0, .bool false] (ok := fun _ => True) (okp := fun _ => False) (by exact ⟨rfl, rfl, fun u hu => by simp only [Value.cells, List.mem_cons, List.not_mem_nil, or_false] at hu; rcases hu with rfl | rfl | rfl | rfl <;> rfl⟩) (fun _ h => h.elim) trivial (by have := HCX.out.prod; omega) (by have := HCX.out.prod; have := HCX.out.p4; have := HH.out.sm.1; omega) (Below.refl _ _) (Nat.le_refl _) ?_
                                          intro vn wn hr hb hg hat
                                          obtain ⟨An, cn, en⟩ := Kd.R_slice hr
                                          subst en
                                          rw [List.length_replicate, show (pr).toNat = cx.prod by have := HCX.out.prod; omega] at hr hat
                                          have hF2 := hF.setH hb ⟨An, cn, rfl, hr⟩
                                          refine hK.out _ _ ⟨(blk_cell hF2.x 0).trans rfl, (blk_cell hF2.x 1).trans rfl, (blk_cell hF2.x 2).trans rfl, (blk_cell hF2.x 3).trans rfl, (blk_cell hF2.x 4).trans rfl, (blk_cell hF2.x 5).trans rfl, trivial⟩ (fun hHeld => ?_)
                                          rw [List.length_replicate, show (pr).toNat = cx.prod by have := HCX.out.prod; omega]
                                          exact J2100 (s1, .slice An cx.prod cn, s3, s4) wn hF2
                                        ·
                                          refine Kd.R_make_step (Kd.int .i64) (w0 := wb) wb.heap.size 3 (by rfl) rfl 37 (.tmp 27) (.tmp 27) rfl (up.length : Int) rfl rfl und37 (.int .i64 0) 8 inf3 rfl (by decide) (by decide) (0 : Int) (ok := fun _ => True) (okp := fun _ => False) (by exact rfl) (fun _ h => h.elim) trivial (by have := HCX.out.prod; omega) (by have := HCX.out.prod; have := HCX.out.p4; have := HH.out.sm.1; omega) (Below.refl _ _) (Nat.le_refl _) ?_
                                          intro vn wn hr hb hg hat
                                          obtain ⟨An, cn, en⟩ := Kd.R_slice hr
                                          subst en
                                          rw [List.length_replicate, Int.toNat_natCast] at hr hat
                                          have hF2 := hF.setG hb ⟨An, cn, rfl, hr⟩
                                          refine hK.out _ _ ⟨(blk_cell hF2.x 0).trans rfl, (blk_cell hF2.x 1).trans rfl, (blk_cell hF2.x 2).trans rfl, (blk_cell hF2.x 3).trans rfl, (blk_cell hF2.x 4).trans rfl, (blk_cell hF2.x 5).trans rfl, trivial⟩ (fun hHeld => ?_)
                                          rw [List.length_replicate, Int.toNat_natCast]
                                          exact J2010 (s1, s2, .slice An up.length cn, s4) wn hF2
                                        ·
                                          refine Kd.R_make_step (Kd.int .i64) (w0 := wb) wb.heap.size 3 (by rfl) rfl 37 (.tmp 29) (.tmp 29) rfl (up.length : Int) rfl rfl und37 (.int .i64 0) 8 inf3 rfl (by decide) (by decide) (0 : Int) (ok := fun _ => True) (okp := fun _ => False) (by exact rfl) (fun _ h => h.elim) trivial (by have := HCX.out.prod; omega) (by have := HCX.out.prod; have := HCX.out.p4; have := HH.out.sm.1; omega) (Below.refl _ _) (Nat.le_refl _) ?_
                                          intro vn wn hr hb hg hat
                                          obtain ⟨An, cn, en⟩ := Kd.R_slice hr
                                          subst en
                                          rw [List.length_replicate, Int.toNat_natCast] at hr hat
                                          have hF2 := hF.setS hb ⟨An, cn, rfl, hr⟩
                                          refine hK.out _ _ ⟨(blk_cell hF2.x 0).trans rfl, (blk_cell hF2.x 1).trans rfl, (blk_cell hF2.x 2).trans rfl, (blk_cell hF2.x 3).trans rfl, (blk_cell hF2.x 4).trans rfl, (blk_cell hF2.x 5).trans rfl, trivial⟩ (fun hHeld => ?_)
                                          rw [List.length_replicate, Int.toNat_natCast]
                                          exact J2001 (s1, s2, s3, .slice An up.length cn) wn hF2
                                      case goJ2000 =>
                                        refine join_ (σ := Value × Value × Value × Value) 8 #[true, true, false, true, true, false, true, true, false, true, false, true, true, false, false, false, false] (fun s => [(30, s.2.2.2)]) (fun s wb => NW w6 w.heap.size #[.int .i64 v, .int .i64 wd, .int .i64 cp, .int .i64 pr, .int .u64 sa, .slice A2 up.length C2] A2 C2 up cx.prod up.length cx.ends.length (ints cx.ends) false false false true s.1 s.2.1 s.2.2.1 s.2.2.2 wb) (fun s wb hF => ?contJ0001) (fun J0001 => ?goJ0001)
                                        case contJ0001 =>
                                          obtain ⟨s1, s2, s3, s4⟩ := s
                                          simp only at hF
                                          refine norm_ (a' := ?_) ?_ ?_
                                          rotate_left
                                          · simp only [putAll, Act.put, List.setIfInBounds_toArray, List.set_cons_zero, List.set_cons_succ, i64_w, i32_w]
                                            rfl
                                          refine three_ (i := 2) (j := 8) (k := 10) (Ni := some 20) (Nj := some 26) (Nk := some 28) #[true, true, true, true, true, false, true, true, false, true, false, true, true, false, false, false, false] #[true, true, false, true, true, false, true, true, true, true, false, true, true, false, false, false, false] #[true, true, false, true, true, false, true, true, false, true, true, true, true, false, false, false, false] rfl rfl rfl rfl rfl rfl (by kernel_rfl) (by decide) (by decide) (by decide) (fun K hK => ?_) (fun K hK => ?_) (fun K hK => ?_)
                                          ·
                                            refine goes_ Tryd.func60 (by kernel_rfl) rfl #[.agg #[.int .i64 v, .int .i64 wd, .int .i64 cp, .int .i64 pr, .int .u64 sa, .slice A2 up.length C2]] (by rfl) rfl rfl (by (try simp only [List.map_toArray, List.map_cons, List.map_nil]); first | done | rfl) ?_
                                            with_reducible refine (pstart hF.r HCK.out HU.out).mono ?_
                                            rintro q wn ⟨rfl, hb⟩
                                            refine ⟨_, rfl, ?_⟩
                                            have hF2 := hF.below hb
                                            refine hK.out _ _ ⟨(blk_cell hF2.x 0).trans rfl, (blk_cell hF2.x 1).trans rfl, (blk_cell hF2.x 2).trans rfl, (blk_cell hF2.x 3).trans rfl, (blk_cell hF2.x 4).trans rfl, (blk_cell hF2.x 5).trans rfl, trivial⟩ (fun hHeld => ?_)
                                            exact J1001 (s1, s2, s3, s4) wn hF2
                                          ·
                                            refine Kd.R_make_step (Kd.raw 4) (w0 := wb) wb.heap.size 62 (by rfl) rfl 98 (.tmp 25) (.tmp 25) rfl pr rfl rfl und98 (.agg #[.int .i64 0, .int .i64 0, .int .i64 0, .bool false]) 32 inf62 rfl (by decide) (by decide) [.int .i64 0, .int .i64 0, .int .i64 0, .bool false] (ok := fun _ => True) (okp := fun _ => False) (by exact ⟨rfl, rfl, fun u hu => by simp only [Value.cells, List.mem_cons, List.not_mem_nil, or_false] at hu; rcases hu with rfl | rfl | rfl | rfl <;> rfl⟩) (fun _ h => h.elim) trivial (by have := HCX.out.prod; omega) (by have := HCX.out.prod; have := HCX.out.p4; have := HH.out.sm.1; omega) (Below.refl _ _) (Nat.le_refl _) ?_
                                            intro vn wn hr hb hg hat
                                            obtain ⟨An, cn, en⟩ := Kd.R_slice hr
                                            subst en
                                            rw [List.length_replicate, show (pr).toNat = cx.prod by have := HCX.out.prod; omega] at hr hat
                                            have hF2 := hF.setH hb ⟨An, cn, rfl, hr⟩
                                            refine hK.out _ _ ⟨(blk_cell hF2.x 0).trans rfl, (blk_cell hF2.x 1).trans rfl, (blk_cell hF2.x 2).trans rfl, (blk_cell hF2.x 3).trans rfl, (blk_cell hF2.x 4).trans rfl, (blk_cell hF2.x 5).trans rfl, trivial⟩ (fun hHeld => ?_)
                                            rw [List.length_replicate, show (pr).toNat = cx.prod by have := HCX.out.prod; omega]
                                            exact J0101 (s1, .slice An cx.prod cn, s3, s4) wn hF2
                                          ·
                                            refine Kd.R_make_step (Kd.int .i64) (w0 := wb) wb.heap.size 3 (by rfl) rfl 37 (.tmp 27) (.tmp 27) rfl (up.length : Int) rfl rfl und37 (.int .i64 0) 8 inf3 rfl (by decide) (by decide) (0 : Int) (ok := fun _ => True) (okp := fun _ => False) (by exact rfl) (fun _ h => h.elim) trivial (by have := HCX.out.prod; omega) (by have := HCX.out.prod; have := HCX.out.p4; have := HH.out.sm.1; omega) (Below.refl _ _) (Nat.le_refl _) ?_
                                            intro vn wn hr hb hg hat
                                            obtain ⟨An, cn, en⟩ := Kd.R_slice hr
                                            subst en
                                            rw [List.length_replicate, Int.toNat_natCast] at hr hat
                                            have hF2 := hF.setG hb ⟨An, cn, rfl, hr⟩
                                            refine hK.out _ _ ⟨(blk_cell hF2.x 0).trans rfl, (blk_cell hF2.x 1).trans rfl, (blk_cell hF2.x 2).trans rfl, (blk_cell hF2.x 3).trans rfl, (blk_cell hF2.x 4).trans rfl, (blk_cell hF2.x 5).trans rfl, trivial⟩ (fun hHeld => ?_)
                                            rw [List.length_replicate, Int.toNat_natCast]
                                            exact J0011 (s1, s2, .slice An up.length cn, s4) wn hF2
                                        case goJ0001 =>
                                          refine join_ (σ := Value × Value × Value × Value) 8 #[true, true, false, true, true, false, true, true, false, true, true, true, false, false, false, false, false] (fun s => [(28, s.2.2.1)]) (fun s wb => NW w6 w.heap.size #[.int .i64 v, .int .i64 wd, .int .i64 cp, .int .i64 pr, .int .u64 sa, .slice A2 up.length C2] A2 C2 up cx.prod up.length cx.ends.length (ints cx.ends) false false true false s.1 s.2.1 s.2.2.1 s.2.2.2 wb) (fun s wb hF => ?contJ0010) (fun J0010 => ?goJ0010)
                                          case contJ0010 =>
                                            obtain ⟨s1, s2, s3, s4⟩ := s
                                            simp only at hF
                                            refine norm_ (a' := ?_) ?_ ?_
                                            rotate_left
                                            · simp only [putAll, Act.put, List.setIfInBounds_toArray, List.set_cons_zero, List.set_cons_succ, i64_w, i32_w]
                                              rfl
                                            refine three_ (i := 2) (j := 8) (k := 12) (Ni := some 20) (Nj := some 26) (Nk := some 30) #[true, true, true, true, true, false, true, true, false, true, true, true, false, false, false, false, false] #[true, true, false, true, true, false, true, true, true, true, true, true, false, false, false, false, false] #[true, true, false, true, true, false, true, true, false, true, true, true, true, false, false, false, false] rfl rfl rfl rfl rfl rfl (by kernel_rfl) (by decide) (by decide) (by decide) (fun K hK => ?_) (fun K hK => ?_) (fun K hK => ?_)
                                            ·
                                              refine goes_ Tryd.func60 (by kernel_rfl) rfl #[.agg #[.int .i64 v, .int .i64 wd, .int .i64 cp, .int .i64 pr, .int .u64 sa, .slice A2 up.length C2]] (by rfl) rfl rfl (by (try simp only [List.map_toArray, List.map_cons, List.map_nil]); first | done | rfl) ?_
                                              with_reducible refine (pstart hF.r HCK.out HU.out).mono ?_
                                              rintro q wn ⟨rfl, hb⟩
                                              refine ⟨_, rfl, ?_⟩
                                              have hF2 := hF.below hb
                                              refine hK.out _ _ ⟨(blk_cell hF2.x 0).trans rfl, (blk_cell hF2.x 1).trans rfl, (blk_cell hF2.x 2).trans rfl, (blk_cell hF2.x 3).trans rfl, (blk_cell hF2.x 4).trans rfl, (blk_cell hF2.x 5).trans rfl, trivial⟩ (fun hHeld => ?_)
                                              exact J1010 (s1, s2, s3, s4) wn hF2
                                            ·
                                              refine Kd.R_make_step (Kd.raw 4) (w0 := wb) wb.heap.size 62 (by rfl) rfl 98 (.tmp 25) (.tmp 25) rfl pr rfl rfl und98 (.agg #[.int .i64 0, .int .i64 0, .int .i64 0, .bool false]) 32 inf62 rfl (by decide) (by decide) [.int .i64 0, .int .i64 0, .int .i64 0, .bool false] (ok := fun _ => True) (okp := fun _ => False) (by exact ⟨rfl, rfl, fun u hu => by simp only [Value.cells, List.mem_cons, List.not_mem_nil, or_false] at hu; rcases hu with rfl | rfl | rfl | rfl <;> rfl⟩) (fun _ h => h.elim) trivial (by have := HCX.out.prod; omega) (by have := HCX.out.prod; have := HCX.out.p4; have := HH.out.sm.1; omega) (Below.refl _ _) (Nat.le_refl _) ?_
                                              intro vn wn hr hb hg hat
                                              obtain ⟨An, cn, en⟩ := Kd.R_slice hr
                                              subst en
                                              rw [List.length_replicate, show (pr).toNat = cx.prod by have := HCX.out.prod; omega] at hr hat
                                              have hF2 := hF.setH hb ⟨An, cn, rfl, hr⟩
                                              refine hK.out _ _ ⟨(blk_cell hF2.x 0).trans rfl, (blk_cell hF2.x 1).trans rfl, (blk_cell hF2.x 2).trans rfl, (blk_cell hF2.x 3).trans rfl, (blk_cell hF2.x 4).trans rfl, (blk_cell hF2.x 5).trans rfl, trivial⟩ (fun hHeld => ?_)
                                              rw [List.length_replicate, show (pr).toNat = cx.prod by have := HCX.out.prod; omega]
                                              exact J0110 (s1, .slice An cx.prod cn, s3, s4) wn hF2
                                            ·
                                              refine Kd.R_make_step (Kd.int .i64) (w0 := wb) wb.heap.size 3 (by rfl) rfl 37 (.tmp 29) (.tmp 29) rfl (up.length : Int) rfl rfl und37 (.int .i64 0) 8 inf3 rfl (by decide) (by decide) (0 : Int) (ok := fun _ => True) (okp := fun _ => False) (by exact rfl) (fun _ h => h.elim) trivial (by have := HCX.out.prod; omega) (by have := HCX.out.prod; have := HCX.out.p4; have := HH.out.sm.1; omega) (Below.refl _ _) (Nat.le_refl _) ?_
                                              intro vn wn hr hb hg hat
                                              obtain ⟨An, cn, en⟩ := Kd.R_slice hr
                                              subst en
                                              rw [List.length_replicate, Int.toNat_natCast] at hr hat
                                              have hF2 := hF.setS hb ⟨An, cn, rfl, hr⟩
                                              refine hK.out _ _ ⟨(blk_cell hF2.x 0).trans rfl, (blk_cell hF2.x 1).trans rfl, (blk_cell hF2.x 2).trans rfl, (blk_cell hF2.x 3).trans rfl, (blk_cell hF2.x 4).trans rfl, (blk_cell hF2.x 5).trans rfl, trivial⟩ (fun hHeld => ?_)
                                              rw [List.length_replicate, Int.toNat_natCast]
                                              exact J0011 (s1, s2, s3, .slice An up.length cn) wn hF2
                                          case goJ0010 =>
                                            refine join_ (σ := Value × Value × Value × Value) 8 #[true, true, false, true, true, false, true, true, true, true, false, true, false, false, false, false, false] (fun s => [(26, s.2.1)]) (fun s wb => NW w6 w.heap.size #[.int .i64 v, .int .i64 wd, .int .i64 cp, .int .i64 pr, .int .u64 sa, .slice A2 up.length C2] A2 C2 up cx.prod up.length cx.ends.length (ints cx.ends) false true false false s.1 s.2.1 s.2.2.1 s.2.2.2 wb) (fun s wb hF => ?contJ0100) (fun J0100 => ?goJ0100)
                                            case contJ0100 =>
                                              obtain ⟨s1, s2, s3, s4⟩ := s
                                              simp only at hF
                                              refine norm_ (a' := ?_) ?_ ?_
                                              rotate_left
                                              · simp only [putAll, Act.put, List.setIfInBounds_toArray, List.set_cons_zero, List.set_cons_succ, i64_w, i32_w]
                                                rfl
                                              refine three_ (i := 2) (j := 10) (k := 12) (Ni := some 20) (Nj := some 28) (Nk := some 30) #[true, true, true, true, true, false, true, true, true, true, false, true, false, false, false, false, false] #[true, true, false, true, true, false, true, true, true, true, true, true, false, false, false, false, false] #[true, true, false, true, true, false, true, true, true, true, false, true, true, false, false, false, false] rfl rfl rfl rfl rfl rfl (by kernel_rfl) (by decide) (by decide) (by decide) (fun K hK => ?_) (fun K hK => ?_) (fun K hK => ?_)
                                              ·
                                                refine goes_ Tryd.func60 (by kernel_rfl) rfl #[.agg #[.int .i64 v, .int .i64 wd, .int .i64 cp, .int .i64 pr, .int .u64 sa, .slice A2 up.length C2]] (by rfl) rfl rfl (by (try simp only [List.map_toArray, List.map_cons, List.map_nil]); first | done | rfl) ?_
                                                with_reducible refine (pstart hF.r HCK.out HU.out).mono ?_
                                                rintro q wn ⟨rfl, hb⟩
                                                refine ⟨_, rfl, ?_⟩
                                                have hF2 := hF.below hb
                                                refine hK.out _ _ ⟨(blk_cell hF2.x 0).trans rfl, (blk_cell hF2.x 1).trans rfl, (blk_cell hF2.x 2).trans rfl, (blk_cell hF2.x 3).trans rfl, (blk_cell hF2.x 4).trans rfl, (blk_cell hF2.x 5).trans rfl, trivial⟩ (fun hHeld => ?_)
                                                exact J1100 (s1, s2, s3, s4) wn hF2
                                              ·
                                                refine Kd.R_make_step (Kd.int .i64) (w0 := wb) wb.heap.size 3 (by rfl) rfl 37 (.tmp 27) (.tmp 27) rfl (up.length : Int) rfl rfl und37 (.int .i64 0) 8 inf3 rfl (by decide) (by decide) (0 : Int) (ok := fun _ => True) (okp := fun _ => False) (by exact rfl) (fun _ h => h.elim) trivial (by have := HCX.out.prod; omega) (by have := HCX.out.prod; have := HCX.out.p4; have := HH.out.sm.1; omega) (Below.refl _ _) (Nat.le_refl _) ?_
                                                intro vn wn hr hb hg hat
                                                obtain ⟨An, cn, en⟩ := Kd.R_slice hr
                                                subst en
                                                rw [List.length_replicate, Int.toNat_natCast] at hr hat
                                                have hF2 := hF.setG hb ⟨An, cn, rfl, hr⟩
                                                refine hK.out _ _ ⟨(blk_cell hF2.x 0).trans rfl, (blk_cell hF2.x 1).trans rfl, (blk_cell hF2.x 2).trans rfl, (blk_cell hF2.x 3).trans rfl, (blk_cell hF2.x 4).trans rfl, (blk_cell hF2.x 5).trans rfl, trivial⟩ (fun hHeld => ?_)
                                                rw [List.length_replicate, Int.toNat_natCast]
                                                exact J0110 (s1, s2, .slice An up.length cn, s4) wn hF2
                                              ·
                                                refine Kd.R_make_step (Kd.int .i64) (w0 := wb) wb.heap.size 3 (by rfl) rfl 37 (.tmp 29) (.tmp 29) rfl (up.length : Int) rfl rfl und37 (.int .i64 0) 8 inf3 rfl (by decide) (by decide) (0 : Int) (ok := fun _ => True) (okp := fun _ => False) (by exact rfl) (fun _ h => h.elim) trivial (by have := HCX.out.prod; omega) (by have := HCX.out.prod; have := HCX.out.p4; have := HH.out.sm.1; omega) (Below.refl _ _) (Nat.le_refl _) ?_
                                                intro vn wn hr hb hg hat
                                                obtain ⟨An, cn, en⟩ := Kd.R_slice hr
                                                subst en
                                                rw [List.length_replicate, Int.toNat_natCast] at hr hat
                                                have hF2 := hF.setS hb ⟨An, cn, rfl, hr⟩
                                                refine hK.out _ _ ⟨(blk_cell hF2.x 0).trans rfl, (blk_cell hF2.x 1).trans rfl, (blk_cell hF2.x 2).trans rfl, (blk_cell hF2.x 3).trans rfl, (blk_cell hF2.x 4).trans rfl, (blk_cell hF2.x 5).trans rfl, trivial⟩ (fun hHeld => ?_)
                                                rw [List.length_replicate, Int.toNat_natCast]
                                                exact J0101 (s1, s2, s3, .slice An up.length cn) wn hF2
                                            case goJ0100 =>
                                              refine join_ (σ := Value × Value × Value × Value) 8 #[true, true, true, true, true, false, true, true, false, true, false, true, false, false, false, false, false] (fun s => [(20, .int .u64 (cutW wd sa))]) (fun s wb => NW w6 w.heap.size #[.int .i64 v, .int .i64 wd, .int .i64 cp, .int .i64 pr, .int .u64 sa, .slice A2 up.length C2] A2 C2 up cx.prod up.length cx.ends.length (ints cx.ends) false false false false s.1 s.2.1 s.2.2.1 s.2.2.2 wb) (fun s wb hF => ?contJ1000) (fun J1000 => ?goJ1000)
                                              case contJ1000 =>
                                                obtain ⟨s1, s2, s3, s4⟩ := s
                                                simp only at hF
                                                refine norm_ (a' := ?_) ?_ ?_
                                                rotate_left
                                                · simp only [putAll, Act.put, List.setIfInBounds_toArray, List.set_cons_zero, List.set_cons_succ, i64_w, i32_w]
                                                  rfl
                                                refine four_ (i := 5) (j := 8) (k := 10) (m := 12) (Ni := some 23) (Nj := some 26) (Nk := some 28) (Nm := some 30) #[true, true, true, true, true, true, true, true, false, true, false, true, false, false, false, false, false] #[true, true, true, true, true, false, true, true, true, true, false, true, false, false, false, false, false] #[true, true, true, true, true, false, true, true, false, true, true, true, false, false, false, false, false] #[true, true, true, true, true, false, true, true, false, true, false, true, true, false, false, false, false] rfl rfl rfl rfl rfl rfl rfl rfl (by kernel_rfl) (by decide) (by decide) (by decide) (by decide) (fun K hK => ?_) (fun K hK => ?_) (fun K hK => ?_) (fun K hK => ?_)
                                                ·
                                                  refine goes_ Tryd.func44 (by kernel_rfl) rfl #[.slice A2 up.length C2] (by rfl) rfl rfl (by (try simp only [List.map_toArray, List.map_cons, List.map_nil]); first | done | rfl) ?_
                                                  with_reducible refine (ends_okR hF.r HCX.out.ck hF.t).mono ?_
                                                  rintro q wn ⟨Ae, ce, rfl, hre, hb⟩
                                                  refine ⟨_, rfl, ?_⟩
                                                  rw [HCX.out.ends, ints_len] at hre
                                                  have hF2 := hF.setE hb ⟨Ae, ce, rfl, hre⟩
                                                  refine hK.out _ _ ⟨(blk_cell hF2.x 0).trans rfl, (blk_cell hF2.x 1).trans rfl, (blk_cell hF2.x 2).trans rfl, (blk_cell hF2.x 3).trans rfl, (blk_cell hF2.x 4).trans rfl, (blk_cell hF2.x 5).trans rfl, trivial⟩ (fun hHeld => ?_)
                                                  rw [HCX.out.ends, ints_len]
                                                  exact J2000 (.slice Ae cx.ends.length ce, s2, s3, s4) wn hF2
                                                ·
                                                  refine Kd.R_make_step (Kd.raw 4) (w0 := wb) wb.heap.size 62 (by rfl) rfl 98 (.tmp 25) (.tmp 25) rfl pr rfl rfl und98 (.agg #[.int .i64 0, .int .i64 0, .int .i64 0, .bool false]) 32 inf62 rfl (by decide) (by decide) [.int .i64 0, .int .i64 0, .int .i64 0, .bool false] (ok := fun _ => True) (okp := fun _ => False) (by exact ⟨rfl, rfl, fun u hu => by simp only [Value.cells, List.mem_cons, List.not_mem_nil, or_false] at hu; rcases hu with rfl | rfl | rfl | rfl <;> rfl⟩) (fun _ h => h.elim) trivial (by have := HCX.out.prod; omega) (by have := HCX.out.prod; have := HCX.out.p4; have := HH.out.sm.1; omega) (Below.refl _ _) (Nat.le_refl _) ?_
                                                  intro vn wn hr hb hg hat
                                                  obtain ⟨An, cn, en⟩ := Kd.R_slice hr
                                                  subst en
                                                  rw [List.length_replicate, show (pr).toNat = cx.prod by have := HCX.out.prod; omega] at hr hat
                                                  have hF2 := hF.setH hb ⟨An, cn, rfl, hr⟩
                                                  refine hK.out _ _ ⟨(blk_cell hF2.x 0).trans rfl, (blk_cell hF2.x 1).trans rfl, (blk_cell hF2.x 2).trans rfl, (blk_cell hF2.x 3).trans rfl, (blk_cell hF2.x 4).trans rfl, (blk_cell hF2.x 5).trans rfl, trivial⟩ (fun hHeld => ?_)
                                                  rw [List.length_replicate, show (pr).toNat = cx.prod by have := HCX.out.prod; omega]
                                                  exact J1100 (s1, .slice An cx.prod cn, s3, s4) wn hF2
                                                ·
                                                  refine Kd.R_make_step (Kd.int .i64) (w0 := wb) wb.heap.size 3 (by rfl) rfl 37 (.tmp 27) (.tmp 27) rfl (up.length : Int) rfl rfl und37 (.int .i64 0) 8 inf3 rfl (by decide) (by decide) (0 : Int) (ok := fun _ => True) (okp := fun _ => False) (by exact rfl) (fun _ h => h.elim) trivial (by have := HCX.out.prod; omega) (by have := HCX.out.prod; have := HCX.out.p4; have := HH.out.sm.1; omega) (Below.refl _ _) (Nat.le_refl _) ?_
                                                  intro vn wn hr hb hg hat
                                                  obtain ⟨An, cn, en⟩ := Kd.R_slice hr
                                                  subst en
                                                  rw [List.length_replicate, Int.toNat_natCast] at hr hat
                                                  have hF2 := hF.setG hb ⟨An, cn, rfl, hr⟩
                                                  refine hK.out _ _ ⟨(blk_cell hF2.x 0).trans rfl, (blk_cell hF2.x 1).trans rfl, (blk_cell hF2.x 2).trans rfl, (blk_cell hF2.x 3).trans rfl, (blk_cell hF2.x 4).trans rfl, (blk_cell hF2.x 5).trans rfl, trivial⟩ (fun hHeld => ?_)
                                                  rw [List.length_replicate, Int.toNat_natCast]
                                                  exact J1010 (s1, s2, .slice An up.length cn, s4) wn hF2
                                                ·
                                                  refine Kd.R_make_step (Kd.int .i64) (w0 := wb) wb.heap.size 3 (by rfl) rfl 37 (.tmp 29) (.tmp 29) rfl (up.length : Int) rfl rfl und37 (.int .i64 0) 8 inf3 rfl (by decide) (by decide) (0 : Int) (ok := fun _ => True) (okp := fun _ => False) (by exact rfl) (fun _ h => h.elim) trivial (by have := HCX.out.prod; omega) (by have := HCX.out.prod; have := HCX.out.p4; have := HH.out.sm.1; omega) (Below.refl _ _) (Nat.le_refl _) ?_
                                                  intro vn wn hr hb hg hat
                                                  obtain ⟨An, cn, en⟩ := Kd.R_slice hr
                                                  subst en
                                                  rw [List.length_replicate, Int.toNat_natCast] at hr hat
                                                  have hF2 := hF.setS hb ⟨An, cn, rfl, hr⟩
                                                  refine hK.out _ _ ⟨(blk_cell hF2.x 0).trans rfl, (blk_cell hF2.x 1).trans rfl, (blk_cell hF2.x 2).trans rfl, (blk_cell hF2.x 3).trans rfl, (blk_cell hF2.x 4).trans rfl, (blk_cell hF2.x 5).trans rfl, trivial⟩ (fun hHeld => ?_)
                                                  rw [List.length_replicate, Int.toNat_natCast]
                                                  exact J1001 (s1, s2, s3, .slice An up.length cn) wn hF2
                                              case goJ1000 =>
                                                have hF := HN0.out
                                                obtain ⟨s1, hs1⟩ : ∃ s1 : Value, s1 = undef := ⟨_, rfl⟩
                                                have hF : NW w6 w.heap.size #[.int .i64 v, .int .i64 wd, .int .i64 cp, .int .i64 pr, .int .u64 sa, .slice A2 up.length C2] A2 C2 up cx.prod up.length cx.ends.length (ints cx.ends) false false false false s1 s1 s1 s1 w6 := ⟨hF.b, hF.x, hF.t, hF.r, (fun d => nomatch d), (fun d => nomatch d), (fun d => nomatch d), (fun d => nomatch d), (fun d _ => nomatch d), (fun d _ => nomatch d), (fun d _ => nomatch d)⟩
                                                refine four_ (i := 2) (j := 8) (k := 10) (m := 12) (Ni := some 20) (Nj := some 26) (Nk := some 28) (Nm := some 30) #[true, true, true, true, true, false, true, true, false, true, false, true, false, false, false, false, false] #[true, true, false, true, true, false, true, true, true, true, false, true, false, false, false, false, false] #[true, true, false, true, true, false, true, true, false, true, true, true, false, false, false, false, false] #[true, true, false, true, true, false, true, true, false, true, false, true, true, false, false, false, false] rfl rfl rfl rfl rfl rfl rfl rfl (by kernel_rfl) (by decide) (by decide) (by decide) (by decide) (fun K hK => ?_) (fun K hK => ?_) (fun K hK => ?_) (fun K hK => ?_)
                                                ·
                                                  refine goes_ Tryd.func60 (by kernel_rfl) rfl #[.agg #[.int .i64 v, .int .i64 wd, .int .i64 cp, .int .i64 pr, .int .u64 sa, .slice A2 up.length C2]] (by rfl) rfl rfl (by (try simp only [List.map_toArray, List.map_cons, List.map_nil]); first | done | rfl) ?_
                                                  with_reducible refine (pstart hF.r HCK.out HU.out).mono ?_
                                                  rintro q wn ⟨rfl, hb⟩
                                                  refine ⟨_, rfl, ?_⟩
                                                  have hF2 := hF.below hb
                                                  refine hK.out _ _ ⟨(blk_cell hF2.x 0).trans rfl, (blk_cell hF2.x 1).trans rfl, (blk_cell hF2.x 2).trans rfl, (blk_cell hF2.x 3).trans rfl, (blk_cell hF2.x 4).trans rfl, (blk_cell hF2.x 5).trans rfl, trivial⟩ (fun hHeld => ?_)
                                                  exact J1000 (s1, s1, s1, s1) wn hF2
                                                ·
                                                  refine Kd.R_make_step (Kd.raw 4) (w0 := w6) w6.heap.size 62 (by rfl) rfl 98 (.tmp 25) (.tmp 25) rfl pr rfl rfl und98 (.agg #[.int .i64 0, .int .i64 0, .int .i64 0, .bool false]) 32 inf62 rfl (by decide) (by decide) [.int .i64 0, .int .i64 0, .int .i64 0, .bool false] (ok := fun _ => True) (okp := fun _ => False) (by exact ⟨rfl, rfl, fun u hu => by simp only [Value.cells, List.mem_cons, List.not_mem_nil, or_false] at hu; rcases hu with rfl | rfl | rfl | rfl <;> rfl⟩) (fun _ h => h.elim) trivial (by have := HCX.out.prod; omega) (by have := HCX.out.prod; have := HCX.out.p4; have := HH.out.sm.1; omega) (Below.refl _ _) (Nat.le_refl _) ?_
                                                  intro vn wn hr hb hg hat
                                                  obtain ⟨An, cn, en⟩ := Kd.R_slice hr
                                                  subst en
                                                  rw [List.length_replicate, show (pr).toNat = cx.prod by have := HCX.out.prod; omega] at hr hat
                                                  have hF2 := hF.setH hb ⟨An, cn, rfl, hr⟩
                                                  refine hK.out _ _ ⟨(blk_cell hF2.x 0).trans rfl, (blk_cell hF2.x 1).trans rfl, (blk_cell hF2.x 2).trans rfl, (blk_cell hF2.x 3).trans rfl, (blk_cell hF2.x 4).trans rfl, (blk_cell hF2.x 5).trans rfl, trivial⟩ (fun hHeld => ?_)
                                                  rw [List.length_replicate, show (pr).toNat = cx.prod by have := HCX.out.prod; omega]
                                                  exact J0100 (s1, .slice An cx.prod cn, s1, s1) wn hF2
                                                ·
                                                  refine Kd.R_make_step (Kd.int .i64) (w0 := w6) w6.heap.size 3 (by rfl) rfl 37 (.tmp 27) (.tmp 27) rfl (up.length : Int) rfl rfl und37 (.int .i64 0) 8 inf3 rfl (by decide) (by decide) (0 : Int) (ok := fun _ => True) (okp := fun _ => False) (by exact rfl) (fun _ h => h.elim) trivial (by have := HCX.out.prod; omega) (by have := HCX.out.prod; have := HCX.out.p4; have := HH.out.sm.1; omega) (Below.refl _ _) (Nat.le_refl _) ?_
                                                  intro vn wn hr hb hg hat
                                                  obtain ⟨An, cn, en⟩ := Kd.R_slice hr
                                                  subst en
                                                  rw [List.length_replicate, Int.toNat_natCast] at hr hat
                                                  have hF2 := hF.setG hb ⟨An, cn, rfl, hr⟩
                                                  refine hK.out _ _ ⟨(blk_cell hF2.x 0).trans rfl, (blk_cell hF2.x 1).trans rfl, (blk_cell hF2.x 2).trans rfl, (blk_cell hF2.x 3).trans rfl, (blk_cell hF2.x 4).trans rfl, (blk_cell hF2.x 5).trans rfl, trivial⟩ (fun hHeld => ?_)
                                                  rw [List.length_replicate, Int.toNat_natCast]
                                                  exact J0010 (s1, s1, .slice An up.length cn, s1) wn hF2
                                                ·
                                                  refine Kd.R_make_step (Kd.int .i64) (w0 := w6) w6.heap.size 3 (by rfl) rfl 37 (.tmp 29) (.tmp 29) rfl (up.length : Int) rfl rfl und37 (.int .i64 0) 8 inf3 rfl (by decide) (by decide) (0 : Int) (ok := fun _ => True) (okp := fun _ => False) (by exact rfl) (fun _ h => h.elim) trivial (by have := HCX.out.prod; omega) (by have := HCX.out.prod; have := HCX.out.p4; have := HH.out.sm.1; omega) (Below.refl _ _) (Nat.le_refl _) ?_
                                                  intro vn wn hr hb hg hat
                                                  obtain ⟨An, cn, en⟩ := Kd.R_slice hr
                                                  subst en
                                                  rw [List.length_replicate, Int.toNat_natCast] at hr hat
                                                  have hF2 := hF.setS hb ⟨An, cn, rfl, hr⟩
                                                  refine hK.out _ _ ⟨(blk_cell hF2.x 0).trans rfl, (blk_cell hF2.x 1).trans rfl, (blk_cell hF2.x 2).trans rfl, (blk_cell hF2.x 3).trans rfl, (blk_cell hF2.x 4).trans rfl, (blk_cell hF2.x 5).trans rfl, trivial⟩ (fun hHeld => ?_)
                                                  rw [List.length_replicate, Int.toNat_natCast]
                                                  exact J0001 (s1, s1, s1, .slice An up.length cn) wn hF2
end Go.Proofs.YtnnfcdffnckoiaaDoor.Mo
/- model.All, walked. -/
set_option linter.unusedVariables false
set_option linter.unusedSimpArgs false
set_option maxRecDepth 100000
namespace Go.Proofs.YtnnfcdffnckoiaaDoor.Mo
open Go.RowKit Go.Proofs.YtnnfcdffnckoiaaDoorW.PrintWords Go.Proofs.YtnnfcdffnckoiaaDoorW.PrintLast Go.Proofs.YtnnfcdffnckoiaaDoorW.PrintMore
open Graph (checkG Fine Gv endsI ref_ends fine_of ends_some Tabled ends_okR)
open QGc (checkC boundB)
/-- Events in a row, read; where their data lie. -/
def EvsC (w : World) (A : Option Addr) (l : List Ev) (bs : Nat → Option Addr × Nat) : Prop := ∀ j (h : j < l.length), ∃ ad, A = some ad ∧ (w.cell? (ad.add (j * 7)) = some (.int .i64 l[j].kind) ∧ w.cell? ⟨(ad.add (j * 7)).block, (ad.add (j * 7)).off + 1, none⟩ = some (.int .i64 l[j].thread) ∧ w.cell? ⟨(ad.add (j * 7)).block, (ad.add (j * 7)).off + 2, none⟩ = some (.int .i64 l[j].op) ∧ w.cell? ⟨(ad.add (j * 7)).block, (ad.add (j * 7)).off + 3, none⟩ = some (.int .i64 l[j].n) ∧ w.cell? ⟨(ad.add (j * 7)).block, (ad.add (j * 7)).off + 4, none⟩ = some (.int .u64 l[j].pos) ∧ w.cell? ⟨(ad.add (j * 7)).block, (ad.add (j * 7)).off + 5, none⟩ = some (.int .i64 l[j].code) ∧ w.cell? ⟨(ad.add (j * 7)).block, (ad.add (j * 7)).off + 6, none⟩ = some (.slice (bs j).1 l[j].data.length (bs j).2)) ∧ l[j].data.length ≤ (bs j).2 ∧ (Kd.int .i64).C w (bs j).1 l[j].data.length l[j].data
/-- Numbers of an event that fit. -/
def EvOk (e : Ev) : Prop := I64 e.thread ∧ I64 e.n ∧ U64 e.pos ∧ e.data.length ≤ 100000
def stAt (cx : Cx) (st : St) (l : List Ev) (i : Nat) : St := (l.take i).foldl (fun s e => next cx s e) st
theorem stAt_succ {cx : Cx} {st : St} {l : List Ev} {i : Nat} (h : i < l.length) : stAt cx st l (i + 1) = next cx (stAt cx st l i) l[i] := by
  unfold stAt
  rw [List.take_succ_eq_append_getElem h, List.foldl_append]
  rfl
/-- The first n events are right, one behind the other. -/
def Upto (cx : Cx) (st : St) (l : List Ev) (n : Nat) : Prop := ∀ j (h : j < l.length), j < n → code cx (stAt cx st l j) l[j] = 0
/-- What All leaves. -/
structure APost (w0 w : World) (B : Nat) (k : Mk) (cx : Cx) (st : St) (l : List Ev) (r : Ending) (W : World) : Prop where mk ::
  out : ∃ n c, n ≤ l.length ∧ Upto cx st l n ∧ r = .returned (.tuple #[.int .i64 (n : Int), .int .i64 c]) ∧ ((n = l.length ∧ c = 0) ∨ ∃ h : n < l.length, c = code cx (stAt cx st l n) l[n] ∧ c ≠ 0) ∧ MPost w0 w B k cx (stAt cx st l n) W
set_option maxHeartbeats 8000000 in
theorem pall (w0 w : World) (h0 : Below w0.heap.size w0 w) (B : Nat) (k : Mk) (cx : Cx) (st : St) (h : MM w0.heap.size w B k cx st) (A : Option Addr) (C : Nat) (l : List Ev) (bs : Nat → Option Addr × Nat) (hl : l.length ≤ 1000)
    (hev : ∀ W : World, (∀ q, ¬ Own k B q → q < w.heap.size → W.heap[q]? = w.heap[q]?) → EvsC W A l bs) (hok : ∀ e ∈ l, EvOk e) (hg : ∀ n, n ≤ l.length → Upto cx st l n → Good cx (stAt cx st l n)) :
    Calls Tryd.prog 39 #[.pointer (some ⟨B, 0, none⟩), .slice A l.length C] w fun r W => APost w0 w B k cx st l r W := by
  have H0 := Aside.mk h0
  have HEV := Aside.mk hev
  have HOK := Aside.mk hok
  have HG := Aside.mk hg
  have HLN := Aside.mk hl
  have HM0 := Aside.mk h
  clear h0 hev hok hg hl h
  go_enter Tryd.func39, Tryd.ntmps39
  go_wp2_with fail
  go_loopw [11] (fun x wr => ∃ i : Nat, i ≤ l.length ∧ x = .int .i64 (i : Int) ∧ Upto cx st l i ∧ Aside (MPost w0 w B k cx (stAt cx st l i) wr)) (fun x _ => l.length - (intOf x).toNat)
  case atStart => exact ⟨0, Nat.zero_le _, rfl, fun j h hj => absurd hj (Nat.not_lt_zero _), ⟨MPost.same HM0.out (Below.refl _ _) H0.out⟩⟩
  case round =>
    obtain ⟨i, hi, rfl, hup, HP⟩ := hrel
    have HU := Aside.mk hup
    clear hup
    by_cases hlt : i < l.length
    rotate_left
    · obtain rfl : i = l.length := by omega
      have t1 : decide ((l.length : Int) < (l.length : Int)) = false := decide_eq_false (by omega)
      have t2 : decide (l.length < l.length) = false := decide_eq_false (by omega)
      clear hi hlt
      go_wp2
      go_ret2
      exact ⟨⟨l.length, 0, Nat.le_refl _, HU.out, rfl, .inl ⟨rfl, rfl⟩, HP.out⟩⟩
    have t1 : decide ((i : Int) < (l.length : Int)) = true := decide_eq_true (by omega)
    have t2 : decide (i < l.length) = true := decide_eq_true hlt
    have t3 : (i : Int) < (l.length : Int) := by omega
    have HLT := Aside.mk hlt
    have ei := Mo.i1 (show i < 4611686018427387904 by have := HLN.out; omega)
    obtain ⟨k', hMM, hTK, hNO⟩ := HP.out
    have HEW := Aside.mk (fun (W : World) (hW : ∀ q, ¬ Own k' B q → q < wr.heap.size → W.heap[q]? = wr.heap[q]?) => HEV.out W (fun q ho hq => (hW q (fun h2 => by
      rcases hNO q h2 with h3 | h3
      · exact ho h3
      · omega) (Nat.lt_of_lt_of_le hq hTK.s)).trans (hTK.p q hq ho)))
    obtain ⟨ad, rfl, ⟨y0, y1, y2, y3, y4, y5, y6⟩, hdc, hdd⟩ := HEW.out wr (fun _ _ _ => rfl) i hlt
    have HDF := Aside.mk (show Kd.F (Kd.int .i64) wr (fun q => ¬ Own k' B q) (bs i).1 l[i].data.length l[i].data from fun W hW => by
      obtain ⟨_, _, _, _, h9⟩ := HEW.out W hW i hlt
      exact h9)
    have HEO := Aside.mk (HOK.out _ (List.getElem_mem hlt))
    have HSU := Aside.mk (stAt_succ (cx := cx) (st := st) hlt)
    have HCO := Aside.mk (fun (hc : code cx (stAt cx st l i) l[i] = 0) => (show Upto cx st l (i + 1) from fun j h hj => by
      by_cases hji : j < i
      · exact HU.out j h hji
      · obtain rfl : j = i := by omega
        exact hc))
    have HGN := Aside.mk (fun (hc : code cx (stAt cx st l i) l[i] = 0) => (show Good cx (next cx (stAt cx st l i) l[i]) from by
      have h1 := HG.out (i + 1) HLT.out (HCO.out hc)
      rw [HSU.out] at h1
      exact h1))
    have HMM := Aside.mk hMM
    have HTK := Aside.mk hTK
    have HNO := Aside.mk hNO
    generalize hss : stAt cx st l i = sti at *
    have HSS := Aside.mk hss
    clear hss
    generalize hee : l[i] = e at *
    have HEE := Aside.mk hee
    generalize bs i = bi at *
    obtain ⟨Bd, bc⟩ := bi
    simp only at y6 hdc hdd HDF
    clear hMM hTK hNO hi hdc hdd HEW hee
    go_upto_region 4 with (fail)
    have hb := below_alloc (Below.refl wr.heap.size wr) (.cells #[.int .i64 e.kind, .int .i64 e.thread, .int .i64 e.op, .int .i64 e.n, .int .u64 e.pos, .int .i64 e.code, .slice Bd e.data.length bc] 44)
    have HY := Aside.mk (heap_alloc_new wr (.cells #[.int .i64 e.kind, .int .i64 e.thread, .int .i64 e.op, .int .i64 e.n, .int .u64 e.pos, .int .i64 e.code, .slice Bd e.data.length bc] 44))
    clear y0 y1 y2 y3 y4 y5 y6
    have HBB := Aside.mk hb
    clear hb
    generalize wr.alloc (.cells #[.int .i64 e.kind, .int .i64 e.thread, .int .i64 e.op, .int .i64 e.n, .int .u64 e.pos, .int .i64 e.code, .slice Bd e.data.length bc] 44) = w2 at *
    obtain ⟨y0, y1, y2, y3, y4, y5, y6⟩ := cell7 HY.out
    have HAP := Aside.mk (papply w0 w2 (HTK.out.below HBB.out).b B k' cx sti (HMM.out.below HBB.out) e Bd bc HEO.out.1 HEO.out.2.1 (Kd.F_below HDF.out HBB.out) HEO.out.2.2.2 HGN.out)
    go_wp2_with fail
    refine HAP.out.mono ?_
    intro r w3 hp
    have HPP := Aside.mk (hp.up (HTK.out.b) HBB.out)
    have hv := hp.v
    clear hp HAP y0 y1 y2 y3 y4 y5 y6
    subst hv
    by_cases hc : code cx sti e = 0
    · have u1 : (code cx sti e != 0) = false := by rw [hc]; rfl
      have HC := Aside.mk hc
      have HM3 := Aside.mk HPP.out.m
      rw [if_pos hc] at HM3
      clear hc
      go_wp2_with fail
      go_roundw
      case rel =>
        refine ⟨i + 1, HLT.out, by first | rfl | simp | exact congrArg (Value.int .i64) ei, HCO.out HC.out, ?_⟩
        rw [HSU.out]
        obtain ⟨k3, h31, h32, h33⟩ := HM3.out
        exact ⟨k3, h31, HTK.out.trans h32 HNO.out, fun q hq => by
          rcases h33 q hq with h4 | h4
          · exact HNO.out q h4
          · exact .inr (Nat.le_trans HTK.out.s h4)⟩
      case measure =>
        simp only [intOf, tn1, Int.toNat_natCast]
        exact meas1 HLT.out
    · have u1 : (code cx sti e != 0) = true := by simpa using hc
      have HC := Aside.mk hc
      have HM3 := Aside.mk HPP.out.m
      rw [if_neg hc] at HM3
      clear hc
      go_wp2
      go_ret2
      refine ⟨⟨i, code cx sti e, Nat.le_of_lt HLT.out, HU.out, rfl, .inr ⟨HLT.out, ?_, HC.out⟩, ?_⟩⟩
      · rw [HSS.out, HEE.out]
      · rw [HSS.out]
        obtain ⟨k3, h31, h32, h33⟩ := HM3.out
        exact ⟨k3, h31, HTK.out.trans h32 HNO.out, fun q hq => by
          rcases h33 q hq with h4 | h4
          · exact HNO.out q h4
          · exact .inr (Nat.le_trans HTK.out.s h4)⟩
theorem plainT (w : World) : Calls Tryd.prog 41 #[] w fun e w' => ∃ A C, e = .returned (.agg #[.int .i64 2, .int .i64 32, .int .i64 4, .int .i64 1, .int .u64 4294967294, .slice A 1 C]) ∧ Kd.C (Kd.slice 3 (Kd.int .i64)) w' A 1 [[]] ∧ 1 ≤ C ∧ Below w.heap.size w w' := by
  go_enter Tryd.func41, Tryd.ntmps41
  go_wp2
  have h1 := blk_alloc (heap_alloc_new w (.cells #[.int .i64 2, .int .i64 32, .int .i64 4, .int .i64 1, .int .u64 4294967294, .slice (some ⟨w.heap.size + 1, 0, none⟩) 1 1] 25)) (.cells #[.slice none 0 0] 37)
  have h2 := heap_alloc_new (w.alloc (.cells #[.int .i64 2, .int .i64 32, .int .i64 4, .int .i64 1, .int .u64 4294967294, .slice (some ⟨w.heap.size + 1, 0, none⟩) 1 1] 25)) (.cells #[.slice none 0 0] 37)
  rw [World.size_alloc] at h2
  refine bodyPost_ret (results_single rfl (.cell w.heap.size 25 #[.int .i64 2, .int .i64 32, .int .i64 4, .int .i64 1, .int .u64 4294967294, .slice (some ⟨w.heap.size + 1, 0, none⟩) 1 1] (0, 0) _ rfl h1 Tryd.underlying25 rfl (by kernel_rfl) .nil)) rfl ?_
  refine ⟨some ⟨w.heap.size + 1, 0, none⟩, 1, rfl, ⟨rfl, by decide, fun _ => ⟨_, rfl, fun j x hx => ?_⟩⟩, Nat.le_refl _, ((Below.refl _ w).alloc (Nat.le_refl _) _).alloc (by simp) _⟩
  obtain rfl : j = 0 := by
    have := (List.getElem?_eq_some_iff.1 hx).1
    simpa using this
  injection hx with hx
  subst hx
  refine ⟨[.slice none 0 0], rfl, ⟨none, 0, rfl, Nat.le_refl _, Kd.C_nil _ _⟩, fun i u hu => ?_⟩
  obtain rfl : i = 0 := by
    have := (List.getElem?_eq_some_iff.1 hu).1
    simpa using this
  injection hu with hu
  subst hu
  rw [add_plain]
  exact (blk_cell h2 0).trans rfl
end Go.Proofs.YtnnfcdffnckoiaaDoor.Mo
/- The document's example, walked: it is as it says. -/
set_option linter.unusedVariables false
set_option linter.unusedSimpArgs false
set_option maxRecDepth 100000
namespace Go.Proofs.YtnnfcdffnckoiaaDoor.Mo
open Go.RowKit Go.Proofs.YtnnfcdffnckoiaaDoorW.PrintWords Go.Proofs.YtnnfcdffnckoiaaDoorW.PrintLast Go.Proofs.YtnnfcdffnckoiaaDoorW.PrintMore
open Graph (checkG Fine Gv endsI ref_ends fine_of ends_some Tabled ends_okR)
open QGc (checkC boundB)
theorem inv_upto {cx : Cx} (c64 : 1 ≤ cx.cap ∧ cx.cap ≤ 64) {l : List Ev} : ∀ n, n ≤ l.length → n ≤ 900 → Upto cx (st0 cx) l n → ∃ L, Inv cx (stAt cx (st0 cx) l n) L n
  | 0, _, _, _ => ⟨[], Inv.zero c64.1⟩
  | n + 1, h1, h2, hu => by
    obtain ⟨L, hI⟩ := inv_upto c64 n (by omega) (by omega) (fun j h hj => hu j h (by omega))
    have hc := hu n (by omega) (by omega)
    rw [stAt_succ (by omega)]
    by_cases hk : 3 ≤ (l[n]'(by omega)).kind
    · exact ⟨_, hI.step (by omega) c64.2 hk hc⟩
    · refine ⟨L, ?_⟩
      have e : next cx (stAt cx (st0 cx) l n) (l[n]'(by omega)) = stAt cx (st0 cx) l n := by
        unfold next
        rw [if_neg (by omega), if_neg (by omega), if_neg (by omega), if_neg (by omega), if_neg (by omega)]
      rw [e]
      exact hI.mono (by omega)
theorem own_lt_ {base : Nat} {w : World} {B : Nat} {k : Mk} {cx : Cx} {st : St} (h : MM base w B k cx st) {q : Nat} (ho : Own k B q) : q < w.heap.size := by
  rcases ho with e | e | e | e | e | e
  · rw [e]; exact blk_lt h.r.blk
  · exact Kd.R_lt h.x.h q e.symm
  · exact Kd.R_lt h.x.p q e.symm
  · exact Kd.R_lt h.x.d q e.symm
  · exact Kd.R_lt h.x.g q e.symm
  · exact Kd.R_lt h.x.s q e.symm
theorem own_ge_ {base : Nat} {w : World} {B : Nat} {k : Mk} {cx : Cx} {st : St} (h : MM base w B k cx st) {q : Nat} (ho : Own k B q) : base ≤ q := by
  rcases ho with e | e | e | e | e | e
  · rw [e]; exact h.x.bb
  · exact Kd.R_base h.x.h q e.symm
  · exact Kd.R_base h.x.p q e.symm
  · exact Kd.R_base h.x.d q e.symm
  · exact Kd.R_base h.x.g q e.symm
  · exact Kd.R_base h.x.s q e.symm
def lL : List Ev := [⟨3, 0, 0, 2, 4294967294, 0, []⟩, ⟨4, 0, 0, 0, 0, 0, []⟩, ⟨5, 0, 0, 2, 4294967294, 0, [7, 8]⟩, ⟨6, 1, 0, 0, 1, 0, []⟩]
def cxL : Cx := cxOf 32 4 1 4294967294 [[]]
theorem smL : QGc.Sm [[]] := ⟨by decide, by decide⟩
theorem ckL : checkC 2 32 4 1 [[]] = 0 := by decide +kernel
theorem c0L : code cxL (stAt cxL (st0 cxL) lL 0) ⟨3, 0, 0, 2, 4294967294, 0, []⟩ = 0 := by decide +kernel
theorem c1L : code cxL (stAt cxL (st0 cxL) lL 1) ⟨4, 0, 0, 0, 0, 0, []⟩ = 0 := by decide +kernel
theorem c2L : code cxL (stAt cxL (st0 cxL) lL 2) ⟨5, 0, 0, 2, 4294967294, 0, [7, 8]⟩ = 0 := by decide +kernel
theorem c3L : code cxL (stAt cxL (st0 cxL) lL 3) ⟨6, 1, 0, 0, 1, 0, []⟩ = 17 := by decide +kernel
theorem preL : (stAt cxL (st0 cxL) lL 3).pre = 2 := by decide +kernel
theorem takL : (stAt cxL (st0 cxL) lL 3).taken = 2 := by decide +kernel
theorem resL {n : Nat} {c : Int} (hn : n ≤ lL.length) (hu : Upto cxL (st0 cxL) lL n) (h : (n = lL.length ∧ c = 0) ∨ ∃ h : n < lL.length, c = code cxL (stAt cxL (st0 cxL) lL n) lL[n] ∧ c ≠ 0) : n = 3 ∧ c = 17 := by
  rcases h with ⟨rfl, rfl⟩ | ⟨hlt, hc, h0⟩
  · exact absurd (c3L.symm.trans (hu 3 (by decide) (by decide))) (by decide)
  · have hl4 : n < 4 := hlt
    obtain rfl | rfl | rfl | rfl : n = 0 ∨ n = 1 ∨ n = 2 ∨ n = 3 := by omega
    · exact absurd (hc.trans c0L) h0
    · exact absurd (hc.trans c1L) h0
    · exact absurd (hc.trans c2L) h0
    · exact ⟨rfl, hc.trans c3L⟩
def bsL (g : Nat) (j : Nat) : Option Addr × Nat := if j = 2 then (some ⟨g, 0, none⟩, 2) else (none, 0)
theorem evsL {W : World} {g ge : Nat} (hd : W.heap[g]? = some (.cells #[.int .i64 7, .int .i64 8] 3 (0, 0))) (he : W.heap[ge]? = some (.cells #[.int .i64 3, .int .i64 0, .int .i64 0, .int .i64 2, .int .u64 4294967294, .int .i64 0, .slice none 0 0, .int .i64 4, .int .i64 0, .int .i64 0, .int .i64 0, .int .u64 0, .int .i64 0, .slice none 0 0, .int .i64 5, .int .i64 0, .int .i64 0, .int .i64 2, .int .u64 4294967294, .int .i64 0, .slice (some ⟨g, 0, none⟩) 2 2, .int .i64 6, .int .i64 1, .int .i64 0, .int .i64 0, .int .u64 1, .int .i64 0, .slice none 0 0] 44 (0, 0))) : EvsC W (some ⟨ge, 0, none⟩) lL (bsL g) := by
  have hC0 : (Kd.int .i64).C W none 0 [] := Kd.C_nil _ _
  have hC2 : (Kd.int .i64).C W (some ⟨g, 0, none⟩) 2 [7, 8] := ⟨rfl, by decide, fun _ => ⟨_, rfl, fun j x hx => by
    have hj : j < 2 := (List.getElem?_eq_some_iff.1 hx).1
    match j, hj, hx with
    | 0, _, hx =>
      injection hx with hx
      subst hx
      refine ⟨[.int .i64 7], rfl, rfl, fun i u hu => ?_⟩
      obtain rfl : i = 0 := by
        have := (List.getElem?_eq_some_iff.1 hu).1
        simpa using this
      injection hu with hu
      subst hu
      rw [add_plain]
      exact (blk_cell hd 0).trans rfl
    | 1, _, hx =>
      injection hx with hx
      subst hx
      refine ⟨[.int .i64 8], rfl, rfl, fun i u hu => ?_⟩
      obtain rfl : i = 0 := by
        have := (List.getElem?_eq_some_iff.1 hu).1
        simpa using this
      injection hu with hu
      subst hu
      rw [add_plain]
      exact (blk_cell hd 1).trans rfl⟩⟩
  intro j hj
  have hj4 : j < 4 := hj
  match j, hj4 with
  | 0, _ => exact ⟨⟨ge, 0, none⟩, rfl, ⟨(blk_cell he 0).trans rfl, (blk_cell he 1).trans rfl, (blk_cell he 2).trans rfl, (blk_cell he 3).trans rfl, (blk_cell he 4).trans rfl, (blk_cell he 5).trans rfl, (blk_cell he 6).trans rfl⟩, Nat.le_refl _, hC0⟩
  | 1, _ => exact ⟨⟨ge, 0, none⟩, rfl, ⟨(blk_cell he 7).trans rfl, (blk_cell he 8).trans rfl, (blk_cell he 9).trans rfl, (blk_cell he 10).trans rfl, (blk_cell he 11).trans rfl, (blk_cell he 12).trans rfl, (blk_cell he 13).trans rfl⟩, Nat.le_refl _, hC0⟩
  | 2, _ => exact ⟨⟨ge, 0, none⟩, rfl, ⟨(blk_cell he 14).trans rfl, (blk_cell he 15).trans rfl, (blk_cell he 16).trans rfl, (blk_cell he 17).trans rfl, (blk_cell he 18).trans rfl, (blk_cell he 19).trans rfl, (blk_cell he 20).trans rfl⟩, Nat.le_refl _, hC2⟩
  | 3, _ => exact ⟨⟨ge, 0, none⟩, rfl, ⟨(blk_cell he 21).trans rfl, (blk_cell he 22).trans rfl, (blk_cell he 23).trans rfl, (blk_cell he 24).trans rfl, (blk_cell he 25).trans rfl, (blk_cell he 26).trans rfl, (blk_cell he 27).trans rfl⟩, Nat.le_refl _, hC0⟩
set_option maxHeartbeats 8000000 in
theorem live_ (w : World) (hT : Tabled w) : Calls Tryd.prog 24 #[] w fun r W => Yes w W r := by
  have HT := Aside.mk hT
  clear hT
  go_enter Tryd.func24, Tryd.ntmps24
  go_wp2_with fail
  refine (plainT w).mono ?_
  rintro r w1 ⟨A, C, rfl, hrd, hC, hb⟩
  have HB := Aside.mk hb
  have HR := Aside.mk (show Gv w1 A C [[]] from ⟨hrd, hC, smL⟩)
  clear hrd hC hb
  go_upto_region 2 with (fail)
  have hb1 := below_alloc (Below.refl w1.heap.size w1) (.cells #[.int .i64 2, .int .i64 32, .int .i64 4, .int .i64 1, .int .u64 4294967294, .slice A 1 C] 25)
  have hx1 := heap_alloc_new w1 (.cells #[.int .i64 2, .int .i64 32, .int .i64 4, .int .i64 1, .int .u64 4294967294, .slice A 1 C] 25)
  obtain ⟨x0, x1, x2, x3, x4, x5⟩ := cell6 hx1
  replace HB := Aside.mk (HB.out.trans (hb1.mono HB.out.size))
  replace HR := Aside.mk (HR.out.below hb1)
  clear hb1 hx1
  generalize w1.alloc (.cells #[.int .i64 2, .int .i64 32, .int .i64 4, .int .i64 1, .int .u64 4294967294, .slice A 1 C] 25) = w1b at *
  have HN := Aside.mk (pnew w w1b HB.out 2 32 4 1 4294967294 A C [[]] HR.out ckL ⟨by decide, by decide⟩ (HT.out.below HB.out) cxL (cxOf_ok smL ckL))
  go_wp2_with fail
  refine HN.out.mono ?_
  rintro r w2 ⟨⟨B, k, rfl, hMM, hown, hb⟩⟩
  have HRL := Aside.mk (fun {n : Nat} {c : Int} (hn : n ≤ lL.length) (hu : Upto { cxL with lim := B } (st0 cxL) lL n) (h : (n = lL.length ∧ c = 0) ∨ ∃ h : n < lL.length, c = code { cxL with lim := B } (stAt { cxL with lim := B } (st0 cxL) lL n) lL[n] ∧ c ≠ 0) => resL hn hu h)
  have HPL := Aside.mk (show (stAt { cxL with lim := B } (st0 cxL) lL 3).pre = 2 from preL)
  have HTL := Aside.mk (show (stAt { cxL with lim := B } (st0 cxL) lL 3).taken = 2 from takL)
  have HCB := Aside.mk (show st0 cxL = st0 { cxL with lim := B } from rfl)
  have HC64 := Aside.mk (show 1 ≤ ({ cxL with lim := B } : Cx).cap ∧ ({ cxL with lim := B } : Cx).cap ≤ 64 from ⟨(by decide : 1 ≤ cxL.cap), (by decide : cxL.cap ≤ 64)⟩)
  rw [HCB.out] at hMM HRL HPL HTL
  clear HCB HN
  generalize { cxL with lim := B } = cxB at *
  have HMM := Aside.mk hMM
  replace HB := Aside.mk (HB.out.trans (hb.mono HB.out.size))
  clear hMM hown hb x0 x1 x2 x3 x4 x5 HR
  have hd := heap_alloc_new w2 (.cells #[.int .i64 7, .int .i64 8] 3)
  have he := heap_alloc_new (w2.alloc (.cells #[.int .i64 7, .int .i64 8] 3)) (.cells #[.int .i64 3, .int .i64 0, .int .i64 0, .int .i64 2, .int .u64 4294967294, .int .i64 0, .slice none 0 0, .int .i64 4, .int .i64 0, .int .i64 0, .int .i64 0, .int .u64 0, .int .i64 0, .slice none 0 0, .int .i64 5, .int .i64 0, .int .i64 0, .int .i64 2, .int .u64 4294967294, .int .i64 0, .slice (some ⟨w2.heap.size, 0, none⟩) 2 2, .int .i64 6, .int .i64 1, .int .i64 0, .int .i64 0, .int .u64 1, .int .i64 0, .slice none 0 0] 44)
  rw [World.size_alloc] at he
  have hd2 := blk_alloc hd (.cells #[.int .i64 3, .int .i64 0, .int .i64 0, .int .i64 2, .int .u64 4294967294, .int .i64 0, .slice none 0 0, .int .i64 4, .int .i64 0, .int .i64 0, .int .i64 0, .int .u64 0, .int .i64 0, .slice none 0 0, .int .i64 5, .int .i64 0, .int .i64 0, .int .i64 2, .int .u64 4294967294, .int .i64 0, .slice (some ⟨w2.heap.size, 0, none⟩) 2 2, .int .i64 6, .int .i64 1, .int .i64 0, .int .i64 0, .int .u64 1, .int .i64 0, .slice none 0 0] 44)
  have hb2 : Below w2.heap.size w2 ((w2.alloc (.cells #[.int .i64 7, .int .i64 8] 3)).alloc (.cells #[.int .i64 3, .int .i64 0, .int .i64 0, .int .i64 2, .int .u64 4294967294, .int .i64 0, .slice none 0 0, .int .i64 4, .int .i64 0, .int .i64 0, .int .i64 0, .int .u64 0, .int .i64 0, .slice none 0 0, .int .i64 5, .int .i64 0, .int .i64 0, .int .i64 2, .int .u64 4294967294, .int .i64 0, .slice (some ⟨w2.heap.size, 0, none⟩) 2 2, .int .i64 6, .int .i64 1, .int .i64 0, .int .i64 0, .int .u64 1, .int .i64 0, .slice none 0 0] 44)) := ((Below.refl _ w2).alloc (Nat.le_refl _) _).alloc (by simp) _
  have HAL := Aside.mk (pall w ((w2.alloc (.cells #[.int .i64 7, .int .i64 8] 3)).alloc (.cells #[.int .i64 3, .int .i64 0, .int .i64 0, .int .i64 2, .int .u64 4294967294, .int .i64 0, .slice none 0 0, .int .i64 4, .int .i64 0, .int .i64 0, .int .i64 0, .int .u64 0, .int .i64 0, .slice none 0 0, .int .i64 5, .int .i64 0, .int .i64 0, .int .i64 2, .int .u64 4294967294, .int .i64 0, .slice (some ⟨w2.heap.size, 0, none⟩) 2 2, .int .i64 6, .int .i64 1, .int .i64 0, .int .i64 0, .int .u64 1, .int .i64 0, .slice none 0 0] 44)) (below_low hb2 HB.out) B k cxB (st0 cxB) (HMM.out.below hb2) (some ⟨w2.heap.size + 1, 0, none⟩) 4 lL (bsL w2.heap.size) (by decide) (fun W hW => evsL
      ((hW w2.heap.size (fun ho => absurd (own_lt_ HMM.out ho) (by omega)) (blk_lt hd2)).trans hd2) ((hW (w2.heap.size + 1) (fun ho => absurd (own_lt_ HMM.out ho) (by omega)) (blk_lt he)).trans he))
    (fun e he => by
      simp only [lL, List.mem_cons, List.not_mem_nil, or_false] at he
      rcases he with rfl | rfl | rfl | rfl <;> exact ⟨⟨by decide, by decide⟩, ⟨by decide, by decide⟩, ⟨by decide, by decide⟩, by decide⟩)
    (fun n hn hu => by
      obtain ⟨L, hI⟩ := inv_upto (cx := cxB) HC64.out n hn (by have : lL.length = 4 := rfl; omega) hu
      exact hI.good (by have : lL.length = 4 := rfl; omega)))
  clear hd he hd2 hb2
  go_wp2_with fail
  refine HAL.out.mono ?_
  rintro r w3 ⟨⟨n, c, hn, hu, rfl, hres, hm⟩⟩
  obtain ⟨rfl, rfl⟩ := HRL.out hn hu hres
  obtain ⟨k3, hM3, hT3, _⟩ := hm
  have HP := Aside.mk (pprefix w3 B k3 cxB _ hM3.r)
  rw [HPL.out] at HP
  have HM3 := Aside.mk hM3
  have HB3 := Aside.mk hT3.b
  clear hn hu hres hM3 hT3 HAL
  go_wp2_with fail
  refine HP.out.mono ?_
  rintro r w4 ⟨rfl, hb⟩
  have HTK := Aside.mk (ptaken w4 B k3 cxB _ (HM3.out.r.below hb))
  rw [HTL.out] at HTK
  have HB4 := Aside.mk (below_low hb HB3.out)
  clear hb
  go_wp2_with fail
  refine HTK.out.mono ?_
  rintro r w5 ⟨rfl, hb⟩
  have HB5 := Aside.mk (below_low hb HB4.out)
  clear hb
  go_wp2
  go_ret
  exact ⟨rfl, HB5.out⟩
end Go.Proofs.YtnnfcdffnckoiaaDoor.Mo
/- What the laws of the model share: how long lists are; events that came in; both models at the start. -/
set_option linter.unusedVariables false
set_option linter.unusedSimpArgs false
set_option maxRecDepth 100000
namespace Go.Proofs.YtnnfcdffnckoiaaDoor.Mo
open Go.RowKit Go.Proofs.YtnnfcdffnckoiaaDoorW.PrintWords Go.Proofs.YtnnfcdffnckoiaaDoorW.PrintLast Go.Proofs.YtnnfcdffnckoiaaDoorW.PrintMore
open Graph (checkG Fine Gv endsI ref_ends fine_of ends_some Tabled ends_okR)
open QGc (checkC boundB)
open QCf (S44 k44 rd_T44 sakialaw15_Long.f sakialaw15_Long.l0 sakialaw15_Long.j1 sakialaw15_Long.calls sakialaw09_Long.calls sakiaref10_Right.calls k44_open)
theorem ws {i : Nat} (h : i < 4611686018427387904) : wrap64 ((i : Int) + 1) = ((i + 1 : Nat) : Int) := by unfold wrap64; omega
theorem rdT (l : List S44) (i : Nat) (h : i < l.length) : rd_T44 l (i : Int) = l[i] := by simp [rd_T44, h]
def Small (n : Nat) (l : List S44) : Prop := l.length ≤ n ∧ ∀ x ∈ l, x.f6.length ≤ 100
theorem long_loop (n : Nat) (hn : n ≤ 1000) (l : List S44) : ∀ (d k i : Nat), n - i = d → i ≤ n → (∀ j (h : j < l.length), j < i → l[j].f6.length ≤ 100) → 2 * d + 1 < k → ∃ b, sakialaw15_Long.l0 k l (n : Int) (i : Int) = some b ∧ (b = false → Small n l) := by
  intro d
  induction d with
  | zero =>
    intro k i hd hi hj hk
    obtain ⟨k, rfl⟩ : ∃ m, k = m + 2 := ⟨k - 2, by omega⟩
    have e : (if (i : Int) < (l.length : Int) then sakialaw15_Long.j1 (k + 1) l (n : Int) (i : Int) (decide ((i : Int) < (n : Int))) else sakialaw15_Long.j1 (k + 1) l (n : Int) (i : Int) false) = sakialaw15_Long.j1 (k + 1) l (n : Int) (i : Int) false := by
      split
      · rw [decide_eq_false (by omega)]
      · rfl
    refine ⟨decide ((l.length : Int) > (n : Int)), ?_, fun hb => ?_⟩
    · simp only [sakialaw15_Long.l0]
      rw [e]
      simp only [sakialaw15_Long.j1]
      rw [if_neg (by simp)]
    · have hl : l.length ≤ n := by have := of_decide_eq_false hb; omega
      exact ⟨hl, fun x hx => by
        obtain ⟨j, hj2, rfl⟩ := List.mem_iff_getElem.1 hx
        exact hj j hj2 (by omega)⟩
  | succ d ih =>
    intro k i hd hi hj hk
    obtain ⟨k, rfl⟩ : ∃ m, k = m + 2 := ⟨k - 2, by omega⟩
    simp only [sakialaw15_Long.l0]
    by_cases hlt : i < l.length
    · rw [if_pos (by omega), decide_eq_true (by omega : (i : Int) < (n : Int))]
      simp only [sakialaw15_Long.j1]
      rw [if_pos trivial, if_pos (by omega), if_pos (by omega), rdT l i hlt]
      by_cases hc : (l[i].f6.length : Int) > 100
      · exact ⟨true, by rw [if_pos hc], fun h => by simp at h⟩
      · rw [if_neg hc, ws (by omega)]
        exact ih k (i + 1) (by omega) (by omega) (fun j h hji => by
          by_cases e : j = i
          · subst e; omega
          · exact hj j h (by omega)) (by omega)
    · rw [if_neg (by omega)]
      simp only [sakialaw15_Long.j1]
      rw [if_neg (by simp)]
      refine ⟨_, rfl, fun _ => ⟨by omega, fun x hx => ?_⟩⟩
      obtain ⟨j, hj2, rfl⟩ := List.mem_iff_getElem.1 hx
      exact hj j hj2 (by omega)
theorem long_ok (n : Nat) (hn : n ≤ 1000) (l : List S44) (k : Nat) (hk : 3000 ≤ k) : ∃ b, sakialaw15_Long.f k l (n : Int) = some b ∧ (b = false → Small n l) :=
  long_loop n hn l n k 0 (by omega) (by omega) (fun j h hj => by omega) (by omega)
theorem long15 (n : Nat) (hn : n ≤ 1000) {A : Option Addr} {C : Nat} {l : List S44} {w : World} (hr : Kd.C k44 w A l.length l) (hC : l.length ≤ C) : ∃ b, (b = false → Small n l) ∧ Calls Tryd.prog 22 #[.slice A l.length C, .int .i64 (n : Int)] w fun e w' => e = .returned (.bool b) ∧ Below w.heap.size w w' := by
  obtain ⟨b, hb, hs⟩ := long_ok n hn l 3000 (Nat.le_refl _)
  exact ⟨b, hs, (sakialaw15_Long.calls 3000 A C l n b w hr hC hb).mono fun e w' h => ⟨h.1, drawn_below h.2⟩⟩
theorem long09 {A : Option Addr} {C : Nat} {up : List (List Int)} {w : World} (hr : Kd.C (Kd.slice 3 (Kd.int .i64)) w A up.length up) (hC : up.length ≤ C) : ∃ b, (b = false → QGc.Sm up) ∧ Calls Tryd.prog 21 #[.slice A up.length C] w fun e w' => e = .returned (.bool b) ∧ Below w.heap.size w w' := by
  obtain ⟨b, hb, hs⟩ := QCf.long10 up 100 (Nat.le_refl _)
  exact ⟨b, hs, (sakialaw09_Long.calls 100 A C up b w hr hC hb).mono fun e w' h => ⟨h.1, drawn_below h.2⟩⟩
theorem right10 {w : World} {v wd cp pr sa : Int} {A : Option Addr} {C : Nat} {up : List (List Int)} (h : Gv w A C up) : Calls Tryd.prog 23 #[.agg #[.int .i64 v, .int .i64 wd, .int .i64 cp, .int .i64 pr, .int .u64 sa, .slice A up.length C]] w fun e w' => e = .returned (.bool (checkC v wd cp pr up == 0)) ∧ Below w.heap.size w w' :=
  sakiaref10_Right.calls 200 v wd cp pr sa A C up _ w h.rd h.cap (QCf.ref_right v wd cp pr sa up 200 (Nat.le_refl _))
def evOf (x : S44) : Ev := ⟨x.f0, x.f1, x.f2, x.f3, x.f4, x.f5, x.f6⟩
theorem add_at (ad : Addr) (m i : Nat) (hi : 0 < i) : (⟨(ad.add m).block, (ad.add m).off + i, none⟩ : Addr) = ad.add (m + i) := by
  unfold Addr.add
  by_cases hm : m = 0
  · subst hm
    rw [if_pos rfl, if_neg (by omega), Nat.zero_add]
  · rw [if_neg hm, if_neg (by omega)]
    simp only [Nat.add_assoc]
theorem add_block (ad : Addr) (m : Nat) : (ad.add m).block = ad.block := by
  unfold Addr.add
  split <;> rfl
/-- Events that came in, read wherever what lay there lies. -/
theorem evs_of {w : World} {A : Option Addr} {l : List S44} (h : Kd.C k44 w A l.length l) : ∃ bs, ∀ W : World, (∀ q, q < w.heap.size → W.heap[q]? = w.heap[q]?) → EvsC W A (l.map evOf) bs := by
  have hj : ∀ j, ∃ b : Option Addr × Nat, ∀ hlt : j < l.length, ∃ ad, A = some ad ∧ (∀ i u, ([.int .i64 l[j].f0, .int .i64 l[j].f1, .int .i64 l[j].f2, .int .i64 l[j].f3, .int .u64 l[j].f4, .int .i64 l[j].f5, .slice b.1 l[j].f6.length b.2] : List Value)[i]? = some u → w.cell? (ad.add (j * 7 + i)) = some u) ∧ l[j].f6.length ≤ b.2 ∧ (Kd.int .i64).C w b.1 l[j].f6.length l[j].f6 := by
    intro j
    by_cases hlt : j < l.length
    · obtain ⟨_, _, h3⟩ := h
      obtain ⟨ad, ha, hr⟩ := h3 (by omega)
      obtain ⟨cs, hlen, hK, hcs⟩ := hr j _ (List.getElem?_eq_getElem hlt)
      obtain ⟨A6, c6, rfl, h6, h7⟩ := k44_open hK
      exact ⟨(A6, c6), fun _ => ⟨ad, ha, hcs, h6, h7⟩⟩
    · exact ⟨(none, 0), fun h => absurd h hlt⟩
  obtain ⟨bs, hbs⟩ := Classical.skolem.1 hj
  refine ⟨bs, fun W hW j hlt => ?_⟩
  have hlt' : j < l.length := by simpa using hlt
  obtain ⟨ad, ha, hc, h6, h7⟩ := hbs j hlt'
  have e : (l.map evOf)[j] = evOf l[j] := by simp
  have hcell : ∀ {p : Addr} {u : Value}, w.cell? p = some u → W.cell? p = some u := fun {p u} hp => by
    have hlt := World.block_lt_of_cell? w p hp
    have := hW p.block hlt
    unfold World.cell? at hp ⊢
    rw [this]
    exact hp
  rw [e]
  refine ⟨ad, ha, ⟨hcell (hc 0 _ rfl), ?_, ?_, ?_, ?_, ?_, ?_⟩, h6, ?_⟩
  · rw [add_at _ _ _ (by omega)]; exact hcell (hc 1 _ rfl)
  · rw [add_at _ _ _ (by omega)]; exact hcell (hc 2 _ rfl)
  · rw [add_at _ _ _ (by omega)]; exact hcell (hc 3 _ rfl)
  · rw [add_at _ _ _ (by omega)]; exact hcell (hc 4 _ rfl)
  · rw [add_at _ _ _ (by omega)]; exact hcell (hc 5 _ rfl)
  · rw [add_at _ _ _ (by omega)]; exact hcell (hc 6 _ rfl)
  · exact (Kd.C_F (Kd.heap_int .i64) h7) W (fun q hq _ => hW q hq)
/-- The document's model stays while the program's one is written. -/
theorem RS.kept {w0 w W : World} {B : Nat} {k : Mk} {m : Mp} {up : List (List Int)} {cx : Cx} {st st' : St} {i : Nat} (h : RS w0.heap.size w m up cx st i) (hm : MM w0.heap.size w B k cx st') (t : TK w0 w W k B) : RS w0.heap.size W m up cx st i :=
  { h with r := h.r.step (fun q hq hor => t.p q hq (fun ho => by
      rcases hor with h1 | h1
      · have := own_ge_ hm ho; omega
      · obtain ⟨⟨rows, h2, h3, h4⟩, _⟩ := h.r
        obtain ⟨cl, hcl⟩ := Kd.R_typed h3 q h1.symm
        rcases ho with e | e | e | e | e | e
        · rw [e] at hcl
          exact absurd rfl (blk_ne hcl hm.r.blk (by decide))
        · exact (Kd.R_ne hm.x.h hcl (by decide)) e
        · exact (Kd.R_ne hm.x.p hcl (by decide)) e
        · exact (Kd.R_ne hm.x.d hcl (by decide)) e
        · exact (Kd.R_ne hm.x.g hcl (by decide)) e
        · exact (Kd.R_ne hm.x.s hcl (by decide)) e)) }
end Go.Proofs.YtnnfcdffnckoiaaDoor.Mo
