/- graph.Ends, whose row is its own. -/
import Derived.Test.YtgibmlbdkijflaaDoorGEndss
import Derived.Test.YtgibmlbdkijflaaDoorMoRows
import Derived.Test.YtgibmlbdkijflaaDoorConfP
set_option linter.unusedVariables false
set_option linter.unusedSimpArgs false
set_option maxRecDepth 100000
namespace Go.Proofs.YtgibmlbdkijflaaDoor.Graph
open Go.RowKit Go.Proofs.YtgibmlbdkijflaaDoorW.PrintWords Go.Proofs.YtgibmlbdkijflaaDoorW.PrintLast
theorem list_callsR (m : Nat) (hm : m < 64) (w : World) (hT : Tabled w) :
    Calls Tryd.prog 71 #[.int .u64 m] w fun e w' => ∃ A c, e = .returned (.slice A (memI m).length c) ∧ (Kd.int .i64).R 3 w' w.heap.size (fun _ => True) (.slice A (memI m).length c) (memI m) ∧ Below w.heap.size w w' :=
  (callsIn_wide.1 (list_in 3 m (by omega) hm w hT)).mono fun e w' ⟨v, he, hrow, hb⟩ => by
    have hR : Kd.R (Kd.int .i64) 3 w' w.heap.size (fun _ => True) v (memI m) := ⟨fun _ _ => trivial, by
      have h1 := Kd.reps_scalar (enc := Value.int .i64) (memI m)
      refine ⟨_, ?_, h1⟩
      have e1 : encs (Value.int .i64) (memI m) = (memF m 0).map fun (x : Nat) => Value.int .i64 (x : Int) := by
        simp [encs, memI]
      rw [e1]
      have e2 : (memI m).length = (memF m 0).length := by simp [memI]
      rw [e2]
      exact hrow⟩
    obtain ⟨A, c, e3⟩ := Kd.R_slice hR
    subst e3
    exact ⟨A, c, he, hR, hb⟩
set_option maxHeartbeats 4000000 in
theorem ends_okR {w : World} {A : Option Addr} {C : Nat} {up : List (List Int)} (h : Gv w A C up) (hc : checkG up = 0) (hT : Tabled w) :
    Calls Tryd.prog 33 #[.slice A up.length C] w fun e w' => ∃ A' c', e = .returned (.slice A' (endsI up).length c') ∧ (Kd.int .i64).R 3 w' w.heap.size (fun _ => True) (.slice A' (endsI up).length c') (endsI up) ∧ Below w.heap.size w w' := by
  have h1 : (checkG up != 0) = false := by simpa using hc
  have HF := Aside.mk (fine_of hc)
  have H := Aside.mk (check8 h)
  have HG := Aside.mk h
  have HT := Aside.mk hT
  have HFU := Aside.mk (full up.length HF.out.n6)
  clear hc h hT
  go_enter Tryd.func33, Tryd.ntmps33
  go_wp2_with (first | (go_at_call 67; refine H.out.mono ?_; rintro e w' ⟨rfl, hb⟩; have HB0 := Aside.mk hb; clear hb) | (go_at_call 69; refine (HFU.out _).mono ?_; rintro e w2 ⟨rfl, rfl⟩))
  go_loopw [3, 16] (fun v x wr => ∃ i m : Nat, i ≤ up.length ∧ x = .int .i64 i ∧ v = .int .u64 m ∧ Aside (FreeAt up i [] m) ∧ Aside (Below w.heap.size w wr)) (fun _ x _ => up.length - (intOf x).toNat)
  case atStart => exact ⟨0, 2 ^ up.length - 1, Nat.zero_le _, rfl, rfl, ⟨by
    obtain ⟨h1, h2⟩ := free_start up.length (by have := HF.out.n6; omega)
    exact ⟨h1, fun x hx => by rw [h2 x hx]; simp [namedB]⟩⟩, HB0⟩
  case round =>
    obtain ⟨i, m, hi, rfl, rfl, HFR, HB⟩ := hrel
    clear h1
    by_cases hlt : i < up.length
    · have t1 : decide ((i : Int) < (up.length : Int)) = true := decide_eq_true (by omega)
      have t2 : decide (i < up.length) = true := decide_eq_true hlt
      have t3 : (i : Int) < (up.length : Int) := by omega
      have HI := Aside.mk hlt
      obtain ⟨ad, A0, c0, rfl, hrow, hl0, hnum⟩ := row_at HG.out.rd i hlt
      have hroww : wr.cell? (ad.add i) = some (.slice A0 (up.getD i []).length c0) := (HB.out.cell (World.block_lt_of_cell? _ _ hrow)).trans hrow
      have HAT := Aside.mk (fun j (hj : j < (up.getD i []).length) => rowAt HF.out hlt hj)
      obtain ⟨l, hL⟩ : ∃ l, up.getD i [] = l := ⟨_, rfl⟩
      have HL20 := Aside.mk (show l.length ≤ 20 by rw [← hL]; exact HG.out.sm.at i)
      rw [hL] at hroww hnum HAT
      have HLe := Aside.mk hL
      have HN := Aside.mk (Kd.C_below hnum HB.out)
      clear hrow hl0 hnum hL hi hlt
      have ew := i1 (show i < 4611686018427387904 by have := HI.out; have := HF.out.n6; omega)
      go_wp2_with fail
      clear hroww t1 t2 t3
      go_loopw [3, 22] (fun v x wr2 => ∃ j m : Nat, j ≤ l.length ∧ x = .int .i64 j ∧ v = .int .u64 m ∧ Aside (FreeAt up i (l.take j) m) ∧ wr2 = wr) (fun _ x _ => l.length - (intOf x).toNat)
      case atStart => exact ⟨0, m, Nat.zero_le _, rfl, rfl, HFR, rfl⟩
      case round =>
        clear HFR
        obtain ⟨j, m, hj, rfl, rfl, HFR, rfl⟩ := hrel
        by_cases hlt : j < l.length
        · have t1 : decide ((j : Int) < (l.length : Int)) = true := decide_eq_true (by omega)
          have t2 : decide (j < l.length) = true := decide_eq_true hlt
          have t3 : (j : Int) < (l.length : Int) := by omega
          have HJ := Aside.mk hlt
          obtain ⟨u, hu, hul, hue⟩ := HAT.out j hlt
          obtain ⟨a0, rfl, hx⟩ := num_at HN.out j hlt hlt
          rw [hu] at hx
          have HU6 := Aside.mk (show u < 6 by have := HF.out.n6; omega)
          have HFN := Aside.mk (show FreeAt up i (l.take (j + 1)) (clr1 m u) by rw [List.take_succ_eq_append_getElem hlt, hu]; exact HFR.out.num HU6.out)
          have ej := i1 (show j < 4611686018427387904 by have := HL20.out; omega)
          clear hj hlt hu hul hue
          go_wp2_with (go_at_call 70; refine (without m u _ HFR.out.1 HU6.out).mono ?_; rintro e w3 ⟨rfl, rfl⟩)
          go_roundw
          case rel => exact ⟨j + 1, _, HJ.out, by first | rfl | simp, rfl, HFN, by trivial⟩
          case measure =>
            have := HJ.out
            have e9 : ((j : Int) + 1).toNat = j + 1 := by omega
            simp only [intOf, e9, Int.toNat_natCast]
            omega
        · have t1 : decide ((j : Int) < (l.length : Int)) = false := decide_eq_false (by omega)
          have t2 : decide (j < l.length) = false := decide_eq_false hlt
          obtain rfl : j = l.length := by omega
          have HFN := Aside.mk (show FreeAt up (i + 1) [] m from FreeAt.row (by have := HFR.out; rw [List.take_length, ← HLe.out] at this; exact this))
          clear hlt hj HFR
          go_wp2
          go_roundw
          case rel => exact ⟨i + 1, m, HI.out, by first | rfl | simp, rfl, HFN, HB⟩
          case measure =>
            have := HI.out
            have e9 : ((i : Int) + 1).toNat = i + 1 := by omega
            simp only [intOf, e9, Int.toNat_natCast]
            omega
    · have t1 : decide ((i : Int) < (up.length : Int)) = false := decide_eq_false (by omega)
      have t2 : decide (i < up.length) = false := decide_eq_false hlt
      obtain rfl : i = up.length := by omega
      clear hlt hi
      go_wp2_with (go_at_call 71; refine (list_callsR m HFR.out.1 _ (HT.out.below HB.out)).mono ?_; rintro e w5 ⟨A5, c5, rfl, h51, hb5⟩; have HB5 := Aside.mk (HB.out.trans (hb5.mono HB.out.size)); have H51 := Aside.mk (Kd.R_lower h51 HB.out.size); clear h51 hb5)
      go_ret
      have e := ends_mem HF.out.n6 HFR.out
      rw [← e]
      exact ⟨A5, c5, rfl, H51.out, HB5.out⟩
end Go.Proofs.YtgibmlbdkijflaaDoor.Graph
set_option linter.unusedVariables false
set_option linter.unusedSimpArgs false
set_option maxRecDepth 100000
namespace Go.Proofs.YtgibmlbdkijflaaDoor.Graph
open Go.RowKit
def under (up : List (List Int)) (x : Nat) : Nat := (List.range 6).countP (fun y => reachB up y x)
theorem under_lt {up : List (List Int)} (h : Fine up) {i x : Nat} (e : edge up i x = true) : under up i < under up x := by
  have hg := h.good
  refine countP_lt _ (fun y hy => (reachB_iff hg).2 (((reachB_iff hg).1 hy).trans (.one e))) i (List.mem_range.2 ?_) (h.acyc i) ((reachB_iff hg).2 (.one e))
  have := (edge_lt hg e).1; have := h.n6; omega
theorem some_end {up : List (List Int)} (h : Fine up) : ∀ (k x : Nat), under up x ≤ k → x < up.length → ∃ r, r < up.length ∧ namedB up up.length r = false := by
  intro k
  induction k with
  | zero =>
    intro x hk hx
    refine ⟨x, hx, ?_⟩
    cases hn : namedB up up.length x with
    | false => rfl
    | true =>
      obtain ⟨i, _, hi⟩ := List.any_eq_true.1 hn
      have := under_lt h hi; omega
  | succ k ih =>
    intro x hk hx
    cases hn : namedB up up.length x with
    | false => exact ⟨x, hx, hn⟩
    | true =>
      obtain ⟨i, _, hi⟩ := List.any_eq_true.1 hn
      exact ih i (by have := under_lt h hi; omega) (edge_lt h.good hi).1
theorem ends_some {up : List (List Int)} (h : Fine up) : endsI up ≠ [] := by
  intro e
  obtain ⟨r, h1, h2⟩ := some_end h (under up 0) 0 (Nat.le_refl _) h.n1
  have := pick_nil.1 e r h1
  rw [h2] at this; simp at this
end Go.Proofs.YtgibmlbdkijflaaDoor.Graph
namespace Go.Proofs.YtgibmlbdkijflaaDoor.Mo
open Go.RowKit Go.Proofs.YtgibmlbdkijflaaDoorW.PrintWords Go.Proofs.YtgibmlbdkijflaaDoorW.PrintLast Go.Proofs.YtgibmlbdkijflaaDoorW.PrintMore
open Graph (checkG Fine Gv endsI ref_ends fine_of ends_some pick pick_mem okAll okN Tabled ends_okR)
open QGc (checkC boundB rd_L1)
open Graph (rightB)
def cxOf (wd cp pr sa : Int) (up : List (List Int)) : Cx := ⟨cp, pr.toNat, up.map (fun l => l.map Int.toNat), (endsI up).map Int.toNat, fun t p => cntW wd sa t p, 0⟩
structure CxOk (v wd cp pr sa : Int) (up : List (List Int)) (cx : Cx) : Prop where
  cap : cp = cx.cap
  prod : pr = cx.prod
  uq : up = cx.up.map ints
  ends : endsI up = ints cx.ends
  ct : ∀ t p, cx.cnt t p = cntW wd sa t p
  c64 : 1 ≤ cx.cap ∧ cx.cap ≤ 64
  p4 : 1 ≤ cx.prod ∧ cx.prod ≤ 4
  u6 : 1 ≤ cx.up.length ∧ cx.up.length ≤ 6
  ub : ∀ l ∈ cx.up, ∀ c ∈ l, c < cx.up.length
  ul : ∀ l ∈ cx.up, l.length ≤ 20
  eb : ∀ c ∈ cx.ends, c < cx.up.length
  en : cx.ends ≠ []
  el : cx.ends.length ≤ 6
  ck : checkG up = 0
  wd : wd = 32 ∨ wd = 64
theorem CxOk.lim {v wd cp pr sa : Int} {up : List (List Int)} {cx : Cx} (h : CxOk v wd cp pr sa up cx) (n : Nat) : CxOk v wd cp pr sa up { cx with lim := n } :=
  ⟨h.cap, h.prod, h.uq, h.ends, h.ct, h.c64, h.p4, h.u6, h.ub, h.ul, h.eb, h.en, h.el, h.ck, h.wd⟩
theorem toNat_ints {l : List Int} (h : ∀ x ∈ l, 0 ≤ x) : l = ints (l.map Int.toNat) := by
  unfold ints
  rw [List.map_map]
  conv => lhs; rw [← List.map_id l]
  apply List.map_congr_left
  intro x hx
  have := h x hx
  show x = ((x.toNat : Nat) : Int)
  omega
theorem checkC_parts {v w c p : Int} {up : List (List Int)} (h : checkC v w c p up = 0) : (w = 32 ∨ w = 64) ∧ (1 ≤ p ∧ p ≤ 4) ∧ (2 ≤ c ∧ c ≤ 64) ∧ checkG up = 0 := by
  unfold checkC at h
  split at h
  · cases h
  split at h
  · cases h
  next hw =>
  split at h
  · cases h
  next hr =>
  split at h
  · cases h
  next hp =>
  split at h
  · next hg => exact absurd h hg
  next hg =>
  split at h
  · cases h
  split at h
  · cases h
  next hc =>
  refine ⟨by omega, by omega, ?_, by simpa using hg⟩
  have : rightB c = true := by simpa using hr
  unfold rightB at this
  simp only [Bool.and_eq_true, decide_eq_true_eq] at this
  omega
theorem cxOf_ok {v wd cp pr sa : Int} {up : List (List Int)} (hs : QGc.Sm up) (h : checkC v wd cp pr up = 0) : CxOk v wd cp pr sa up (cxOf wd cp pr sa up) := by
  obtain ⟨hw, hp, hc, hg⟩ := checkC_parts h
  have hf := fine_of hg
  have hup : up = (up.map (fun l => l.map Int.toNat)).map ints := by
    rw [List.map_map]
    conv => lhs; rw [← List.map_id up]
    apply List.map_congr_left
    intro l hl
    exact toNat_ints (fun x hx => ((hf.all l hl).1 x hx).1)
  have hends : endsI up = ints ((endsI up).map Int.toNat) := toNat_ints (fun x hx => by
    obtain ⟨c, _, _, rfl⟩ := pick_mem.1 hx
    omega)
  have hel : (endsI up).length ≤ 6 := by
    unfold endsI pick
    rw [List.length_map]
    exact Nat.le_trans (List.length_filter_le _ _) (by rw [List.length_range]; exact hf.n6)
  refine ⟨rfl, by show pr = ((pr.toNat : Nat) : Int); omega, hup, hends, fun _ _ => rfl, ⟨by show 1 ≤ cp; omega, hc.2⟩, ?_, ?_, ?_, ?_, ?_, ?_, ?_, hg, hw⟩
  · show 1 ≤ pr.toNat ∧ pr.toNat ≤ 4; omega
  · show 1 ≤ (up.map _).length ∧ (up.map _).length ≤ 6; rw [List.length_map]; exact ⟨hf.n1, hf.n6⟩
  · intro l hl c hc
    obtain ⟨r, hr, rfl⟩ := List.mem_map.1 hl
    obtain ⟨x, hx, rfl⟩ := List.mem_map.1 hc
    show x.toNat < (up.map _).length
    rw [List.length_map]
    have := (hf.all r hr).1 x hx
    omega
  · intro l hl
    obtain ⟨r, hr, rfl⟩ := List.mem_map.1 hl
    rw [List.length_map]
    exact hs.2 r hr
  · intro c hc
    obtain ⟨x, hx, rfl⟩ := List.mem_map.1 hc
    obtain ⟨c, h1, _, rfl⟩ := pick_mem.1 hx
    show _ < (up.map _).length
    rw [List.length_map]
    omega
  · intro e
    have e2 : (endsI up).map Int.toNat = [] := e
    rw [List.map_eq_nil_iff] at e2
    exact ends_some hf e2
  · show ((endsI up).map Int.toNat).length ≤ 6
    rw [List.length_map]
    exact hel
theorem copy_loop (up : List (List Int)) (hs : QGc.Sm up) : ∀ (d k i : Nat), up.length - i = d → i ≤ up.length → d < k → QGc.graph_Copy.l0 k (up.take i) up (up.length : Int) (i : Int) = some up := by
  intro d
  induction d with
  | zero =>
    intro k i hd hi hk
    obtain ⟨k, rfl⟩ : ∃ k', k = k' + 1 := ⟨k - 1, by omega⟩
    obtain rfl : i = up.length := by omega
    unfold QGc.graph_Copy.l0
    rw [if_neg (by omega), List.take_length]
  | succ d ih =>
    intro k i hd hi hk
    obtain ⟨k, rfl⟩ : ∃ k', k = k' + 1 := ⟨k - 1, by omega⟩
    have hlt : i < up.length := by omega
    have hrow : (rd_L1 up (i : Int)).length ≤ 20 := by rw [QGc.rdL]; exact hs.at i
    have h20 := hs.1
    unfold QGc.graph_Copy.l0
    rw [if_pos (by omega), if_pos (by omega), if_pos (by omega)]
    simp only [Option.bind_some, List.nil_append, List.length_nil, Nat.zero_add]
    rw [if_pos (by omega), if_pos (by rw [List.length_take]; omega)]
    have e1 : up.take i ++ [rd_L1 up (i : Int)] = up.take (i + 1) := by
      rw [QGc.rdL, List.take_succ_eq_append_getElem hlt, List.getD_eq_getElem?_getD, List.getElem?_eq_getElem hlt]
      rfl
    rw [e1, QGc.w1 (by omega)]
    exact ih k (i + 1) (by omega) (by omega) (by omega)
theorem copy_ok (up : List (List Int)) (hs : QGc.Sm up) : QGc.graph_Copy.f 100 up = some up := copy_loop up hs up.length 100 0 rfl (Nat.zero_le _) (by have := hs.1; omega)
theorem wcut {n s : Int} (hn : n = 32 ∨ n = 64) (hs : U64 s) (w : World) : Calls Tryd.prog 129 #[.int .i64 n, .int .u64 s] w fun e w' => e = .returned (.int .u64 (cutW n s)) ∧ Below w.heap.size w w' := by
  have hc : cutW n s = if n = 32 then Int.tmod s 4294967296 else s := by
    unfold cutW QWi.sakiaref01_Cut.f
    rcases hn with rfl | rfl <;> rfl
  rw [hc]
  rcases hn with rfl | rfl
  · rw [if_pos rfl]
    have e1 : IntKind.u64.wrap (s % 4294967296) = Int.tmod s 4294967296 := by
      obtain ⟨h1, h2⟩ := hs
      rw [Int.tmod_eq_emod_of_nonneg h1]
      simp only [IntKind.wrap, IntKind.signed, IntKind.bits]
      first | omega | (simp; omega)
    have H1 := Aside.mk (fun w => QWi.wide_Of_uint32.calls s (s % 4294967296) w rfl)
    have H2 := Aside.mk (fun w => QWi.wide_Up_uint32.calls (s % 4294967296) _ w rfl)
    rw [e1] at H2
    generalize s % 4294967296 = s1 at *
    generalize Int.tmod s 4294967296 = s2 at *
    clear hc e1
    go_enter Tryd.func129, Tryd.ntmps129
    go_wp2_with fail
    refine (H1.out _).mono ?_
    rintro r w1 ⟨rfl, hd1⟩
    go_wp2_with fail
    refine (H2.out _).mono ?_
    rintro r w2 ⟨rfl, hd2⟩
    go_wp2
    go_ret
    exact ⟨rfl, (drawn_below hd1).trans ((drawn_below hd2).mono (drawn_below hd1).size)⟩
  · rw [if_neg (by decide)]
    go_enter Tryd.func129, Tryd.ntmps129
    go_wp2
    go_ret
    exact ⟨rfl, Below.refl _ _⟩
end Go.Proofs.YtgibmlbdkijflaaDoor.Mo
