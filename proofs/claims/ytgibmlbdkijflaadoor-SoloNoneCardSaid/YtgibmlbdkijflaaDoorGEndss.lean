/- Plain laws of graphs: what is picked, how deep one stands, which are free. -/
import Derived.Test.YtgibmlbdkijflaaDoorGraphP
import Derived.Test.YtgibmlbdkijflaaDoorGLists
import Derived.StillTailTactics
set_option linter.unusedVariables false
set_option linter.unusedSimpArgs false
namespace Go.Proofs.YtgibmlbdkijflaaDoor.Graph
open Go.RowKit
def pick (p : Nat → Bool) (i : Nat) : List Int := ((List.range i).filter p).map fun (c : Nat) => (c : Int)
theorem pick_succ (p : Nat → Bool) (i : Nat) : pick p (i + 1) = pick p i ++ (if p i = true then [(i : Int)] else []) := by
  unfold pick
  rw [List.range_succ, List.filter_append, List.map_append]
  by_cases h : p i = true <;> simp [h]
theorem pick_len (p : Nat → Bool) (i : Nat) : (pick p i).length ≤ i := by
  unfold pick
  rw [List.length_map]
  exact Nat.le_trans (List.length_filter_le _ _) (by simp)
theorem pick_congr {p q : Nat → Bool} {i : Nat} (h : ∀ x, x < i → p x = q x) : pick p i = pick q i := by
  unfold pick
  rw [List.filter_congr (fun x hx => h x (List.mem_range.1 hx))]
theorem pick_more {p : Nat → Bool} {i : Nat} : ∀ d, (∀ x, i ≤ x → x < i + d → p x = false) → pick p (i + d) = pick p i
  | 0, _ => rfl
  | d + 1, h => by
    rw [show i + (d + 1) = (i + d) + 1 from rfl, pick_succ, h (i + d) (by omega) (by omega)]
    simp only [Bool.false_eq_true, if_false, List.append_nil]
    exact pick_more d (fun x h1 h2 => h x h1 (by omega))
theorem pick_six {p : Nat → Bool} {i : Nat} (hi : i ≤ 6) (h : ∀ x, i ≤ x → x < 6 → p x = false) : pick p 6 = pick p i := by
  have := pick_more (p := p) (i := i) (6 - i) (fun x h1 h2 => h x h1 (by omega))
  rwa [show i + (6 - i) = 6 by omega] at this
theorem pick_mem {p : Nat → Bool} {i : Nat} {x : Int} : x ∈ pick p i ↔ ∃ c : Nat, c < i ∧ p c = true ∧ x = (c : Int) := by
  unfold pick
  simp only [List.mem_map, List.mem_filter, List.mem_range]
  constructor
  · rintro ⟨c, ⟨h1, h2⟩, rfl⟩; exact ⟨c, h1, h2, rfl⟩
  · rintro ⟨c, h1, h2, rfl⟩; exact ⟨c, ⟨h1, h2⟩, rfl⟩
theorem pick_nil {p : Nat → Bool} {i : Nat} : pick p i = [] ↔ ∀ c, c < i → p c = false := by
  constructor
  · intro h c hc
    cases hp : p c with
    | false => rfl
    | true => have := pick_mem.2 ⟨c, hc, hp, rfl⟩; rw [h] at this; simp at this
  · intro h
    cases hl : pick p i with
    | nil => rfl
    | cons x l =>
      obtain ⟨c, h1, h2, _⟩ := pick_mem.1 (show x ∈ pick p i by rw [hl]; simp)
      rw [h c h1] at h2; simp at h2
structure Fine (up : List (List Int)) : Prop where
  n1 : 1 ≤ up.length
  n6 : up.length ≤ 6
  all : okAll up
  acyc : ∀ c, reachB up c c = false
theorem Fine.good {up : List (List Int)} (h : Fine up) : GoodUp up := h.all.good h.n6
theorem fine_of {up : List (List Int)} (h : checkG up = 0) : Fine up := by
  unfold checkG at h
  split at h
  · simp at h
  · next h1 =>
    split at h
    · simp at h
    · next h2 =>
      split at h
      · simp at h
      · next h3 =>
        have ho : okAll up := by simpa using h2
        refine ⟨by omega, by omega, ho, fun c => ?_⟩
        cases hc : reachB up c c with
        | false => rfl
        | true =>
          have := (reach_lt (ho.good (by omega)) ((reachB_iff (ho.good (by omega))).1 hc)).1
          exact (h3 ((List.any_eq_true (p := fun c => reachB up c c)).2 ⟨c, List.mem_range.2 this, hc⟩)).elim
theorem rowAt {up : List (List Int)} (h : Fine up) {c : Nat} (hc : c < up.length) {j : Nat} (hj : j < (up.getD c []).length) : ∃ u : Nat, (up.getD c [])[j] = (u : Int) ∧ u < up.length ∧ edge up c u = true := by
  have hm : up.getD c [] ∈ up := by rw [List.getD_eq_getElem?_getD, List.getElem?_eq_getElem hc]; exact List.getElem_mem hc
  have := (h.all _ hm).1 _ (List.getElem_mem hj)
  refine ⟨(up.getD c [])[j].toNat, by omega, by omega, edge_mem.2 ?_⟩
  rw [show (((up.getD c [])[j].toNat : Nat) : Int) = (up.getD c [])[j] by omega]
  exact List.getElem_mem hj
def depL (f : Nat → Nat) (l : List Int) : Nat := l.foldl (fun n u => max n (f u.toNat + 1)) 0
def dep (up : List (List Int)) : Nat → Nat → Nat
  | 0, _ => 0
  | k + 1, c => depL (dep up k) (up.getD c [])
theorem countP_lt {p q : Nat → Bool} : ∀ (l : List Nat), (∀ x, p x = true → q x = true) → ∀ a, a ∈ l → p a = false → q a = true → l.countP p < l.countP q
  | [], _, a, h, _, _ => by simp at h
  | b :: l, h, a, ha, h1, h2 => by
    have hle : l.countP p ≤ l.countP q := List.countP_mono_left (fun x _ hx => h x hx)
    rw [List.countP_cons, List.countP_cons]
    rcases List.mem_cons.1 ha with rfl | ha
    · rw [h1, h2]; simp; omega
    · have := countP_lt l h a ha h1 h2
      cases hb : p b with
      | true => rw [h b hb]; simp; omega
      | false => simp; split <;> omega
def depth (up : List (List Int)) (c : Nat) : Nat := dep up 7 c
end Go.Proofs.YtgibmlbdkijflaaDoor.Graph
set_option linter.unusedVariables false
set_option linter.unusedSimpArgs false
set_option maxRecDepth 100000
namespace Go.Proofs.YtgibmlbdkijflaaDoor.Graph
open Go.RowKit Go.Proofs.YtgibmlbdkijflaaDoorW.PrintWords Go.Proofs.YtgibmlbdkijflaaDoorW.PrintLast
structure Aside (p : Prop) : Prop where mk :: (out : p)
structure Gv (w : World) (A : Option Addr) (C : Nat) (up : List (List Int)) : Prop where
  rd : Kd.C (Kd.slice 3 (Kd.int .i64)) w A up.length up
  cap : up.length ≤ C
  sm : QGc.Sm up
theorem Gv.below {w w' : World} {A : Option Addr} {C : Nat} {up : List (List Int)} (h : Gv w A C up) (b : Below w.heap.size w w') : Gv w' A C up := ⟨Kd.C_below h.rd b, h.cap, h.sm⟩
theorem w1 {i : Nat} (h : i < 4611686018427387904) : wrap64 ((i : Int) + 1) = ((i + 1 : Nat) : Int) := by unfold wrap64; omega
theorem i1 {i : Nat} (h : i < 4611686018427387904) : IntKind.i64.wrap ((i : Int) + 1) = ((i + 1 : Nat) : Int) := by rw [IntKind.wrap_i64]; omega
theorem check8 {w : World} {A : Option Addr} {C : Nat} {up : List (List Int)} (h : Gv w A C up) :
    Calls Tryd.prog 67 #[.slice A up.length C] w fun e w' => e = .returned (.int .i64 (checkG up)) ∧ Below w.heap.size w w' :=
  QGc.graph_Check.calls 100 A C up _ w h.rd h.cap (QGc.graph_check_ok up h.sm 100 (Nat.le_refl _))
structure Rv (w : World) (A : Option Addr) (c : Nat) (l : List Int) : Prop where
  rd : (Kd.int .i64).C w A l.length l
  cap : l.length ≤ c
def namedB (up : List (List Int)) (i x : Nat) : Bool := (List.range i).any fun r => edge up r x
theorem named_succ (up : List (List Int)) (i x : Nat) : namedB up (i + 1) x = (namedB up i x || edge up i x) := by
  unfold namedB; rw [List.range_succ, List.any_append]; simp
def FreeAt (up : List (List Int)) (i : Nat) (l : List Int) (m : Nat) : Prop := m < 64 ∧ ∀ x, x < 6 → m.testBit x = (decide (x < up.length) && !(namedB up i x || l.contains (x : Int)))
theorem free_start : ∀ n, n < 7 → 2 ^ n - 1 < 64 ∧ ∀ x, x < 6 → (2 ^ n - 1).testBit x = decide (x < n) := by decide +kernel
theorem FreeAt.row {up : List (List Int)} {i m : Nat} (h : FreeAt up i (up.getD i []) m) : FreeAt up (i + 1) [] m := ⟨h.1, fun x hx => by rw [h.2 x hx, named_succ]; unfold edge; simp⟩
theorem FreeAt.num {up : List (List Int)} {i m u : Nat} {l : List Int} (h : FreeAt up i l m) (hu : u < 6) : FreeAt up i (l ++ [(u : Int)]) (clr1 m u) := by
  obtain ⟨h1, h2⟩ := clr1_lt m h.1 u hu
  refine ⟨h1, fun x hx => ?_⟩
  rw [h2 x hx, h.2 x hx]
  by_cases e : u = x
  · subst e; simp
  · have : ¬ (u : Int) = (x : Int) := by omega
    have h3 : ¬ (x : Int) = (u : Int) := by omega
    simp [e, this, h3, List.contains_append, Bool.or_assoc]
def endsI (up : List (List Int)) : List Int := pick (fun x => !namedB up up.length x) up.length
theorem memI_pick (m : Nat) : memI m = pick m.testBit 6 := by
  unfold memI memF pick
  simp
theorem ends_mem {up : List (List Int)} {m : Nat} (h6 : up.length ≤ 6) (h : FreeAt up up.length [] m) : memI m = endsI up := by
  rw [memI_pick, endsI, pick_congr (q := fun x => decide (x < up.length) && !namedB up up.length x) (fun x hx => by rw [h.2 x hx]; simp), pick_six h6 (fun x h1 _ => by rw [decide_eq_false (by omega)]; rfl)]
  exact pick_congr (fun x hx => by rw [decide_eq_true hx]; rfl)
set_option maxHeartbeats 4000000 in
theorem ends_ok {w : World} {A : Option Addr} {C : Nat} {up : List (List Int)} (h : Gv w A C up) (hc : checkG up = 0) (hT : Tabled w) :
    Calls Tryd.prog 33 #[.slice A up.length C] w fun e w' => ∃ A' c', e = .returned (.slice A' (endsI up).length c') ∧ (endsI up).length ≤ c' ∧ Kd.C (Kd.int .i64) w' A' (endsI up).length (endsI up) ∧ Below w.heap.size w w' := by
  have h1 : (checkG up != 0) = false := by simpa using hc
  have HF := Aside.mk (fine_of hc)
  have H := Aside.mk (check8 h)
  have HG := Aside.mk h
  have HT := Aside.mk hT
  have HFU := Aside.mk (full up.length HF.out.n6)
  clear hc h hT
  go_enter Tryd.func33, Tryd.ntmps33
  go_wp2_with (first | (go_at_call 67; refine H.out.mono ?_; rintro e w' ⟨rfl, hb⟩; have HB0 := Aside.mk hb; clear hb) | (go_at_call 69; refine (HFU.out _).mono ?_; rintro e w2 ⟨rfl, rfl⟩))
  go_loopw [3, 16] (fun v x wr => ∃ i m : Nat, i ≤ up.length ∧ x = .int .i64 i ∧ v = .int .u64 m ∧ Aside (FreeAt up i [] m) ∧ Aside (Below w.heap.size w wr)) (fun _ x _ => up.length - (intOf x).toNat)
  case atStart => exact ⟨0, 2 ^ up.length - 1, Nat.zero_le _, rfl, rfl, ⟨by
    obtain ⟨h1, h2⟩ := free_start up.length (by have := HF.out.n6; omega)
    exact ⟨h1, fun x hx => by rw [h2 x hx]; simp [namedB]⟩⟩, HB0⟩
  case round =>
    obtain ⟨i, m, hi, rfl, rfl, HFR, HB⟩ := hrel
    clear h1
    by_cases hlt : i < up.length
    · have t1 : decide ((i : Int) < (up.length : Int)) = true := decide_eq_true (by omega)
      have t2 : decide (i < up.length) = true := decide_eq_true hlt
      have t3 : (i : Int) < (up.length : Int) := by omega
      have HI := Aside.mk hlt
      obtain ⟨ad, A0, c0, rfl, hrow, hl0, hnum⟩ := row_at HG.out.rd i hlt
      have hroww : wr.cell? (ad.add i) = some (.slice A0 (up.getD i []).length c0) := (HB.out.cell (World.block_lt_of_cell? _ _ hrow)).trans hrow
      have HAT := Aside.mk (fun j (hj : j < (up.getD i []).length) => rowAt HF.out hlt hj)
      obtain ⟨l, hL⟩ : ∃ l, up.getD i [] = l := ⟨_, rfl⟩
      have HL20 := Aside.mk (show l.length ≤ 20 by rw [← hL]; exact HG.out.sm.at i)
      rw [hL] at hroww hnum HAT
      have HLe := Aside.mk hL
      have HN := Aside.mk (Kd.C_below hnum HB.out)
      clear hrow hl0 hnum hL hi hlt
      have ew := i1 (show i < 4611686018427387904 by have := HI.out; have := HF.out.n6; omega)
      go_wp2_with fail
      clear hroww t1 t2 t3
      go_loopw [3, 22] (fun v x wr2 => ∃ j m : Nat, j ≤ l.length ∧ x = .int .i64 j ∧ v = .int .u64 m ∧ Aside (FreeAt up i (l.take j) m) ∧ wr2 = wr) (fun _ x _ => l.length - (intOf x).toNat)
      case atStart => exact ⟨0, m, Nat.zero_le _, rfl, rfl, HFR, rfl⟩
      case round =>
        clear HFR
        obtain ⟨j, m, hj, rfl, rfl, HFR, rfl⟩ := hrel
        by_cases hlt : j < l.length
        · have t1 : decide ((j : Int) < (l.length : Int)) = true := decide_eq_true (by omega)
          have t2 : decide (j < l.length) = true := decide_eq_true hlt
          have t3 : (j : Int) < (l.length : Int) := by omega
          have HJ := Aside.mk hlt
          obtain ⟨u, hu, hul, hue⟩ := HAT.out j hlt
          obtain ⟨a0, rfl, hx⟩ := num_at HN.out j hlt hlt
          rw [hu] at hx
          have HU6 := Aside.mk (show u < 6 by have := HF.out.n6; omega)
          have HFN := Aside.mk (show FreeAt up i (l.take (j + 1)) (clr1 m u) by rw [List.take_succ_eq_append_getElem hlt, hu]; exact HFR.out.num HU6.out)
          have ej := i1 (show j < 4611686018427387904 by have := HL20.out; omega)
          clear hj hlt hu hul hue
          go_wp2_with (go_at_call 70; refine (without m u _ HFR.out.1 HU6.out).mono ?_; rintro e w3 ⟨rfl, rfl⟩)
          go_roundw
          case rel => exact ⟨j + 1, _, HJ.out, by first | rfl | simp, rfl, HFN, by trivial⟩
          case measure =>
            have := HJ.out
            have e9 : ((j : Int) + 1).toNat = j + 1 := by omega
            simp only [intOf, e9, Int.toNat_natCast]
            omega
        · have t1 : decide ((j : Int) < (l.length : Int)) = false := decide_eq_false (by omega)
          have t2 : decide (j < l.length) = false := decide_eq_false hlt
          obtain rfl : j = l.length := by omega
          have HFN := Aside.mk (show FreeAt up (i + 1) [] m from FreeAt.row (by have := HFR.out; rw [List.take_length, ← HLe.out] at this; exact this))
          clear hlt hj HFR
          go_wp2
          go_roundw
          case rel => exact ⟨i + 1, m, HI.out, by first | rfl | simp, rfl, HFN, HB⟩
          case measure =>
            have := HI.out
            have e9 : ((i : Int) + 1).toNat = i + 1 := by omega
            simp only [intOf, e9, Int.toNat_natCast]
            omega
    · have t1 : decide ((i : Int) < (up.length : Int)) = false := decide_eq_false (by omega)
      have t2 : decide (i < up.length) = false := decide_eq_false hlt
      obtain rfl : i = up.length := by omega
      clear hlt hi
      go_wp2_with (go_at_call 71; refine (list_calls m HFR.out.1 _ (HT.out.below HB.out)).mono ?_; rintro e w5 ⟨A5, c5, rfl, h51, h52, hb5⟩; have HB5 := Aside.mk (HB.out.trans (hb5.mono HB.out.size)); have H51 := Aside.mk h51; have H52 := Aside.mk h52; clear h51 h52 hb5)
      go_ret
      have e := ends_mem HF.out.n6 HFR.out
      rw [← e]
      exact ⟨A5, c5, rfl, H51.out, H52.out, HB5.out⟩
set_option maxHeartbeats 4000000 in
theorem ref_below {w : World} {A : Option Addr} {C : Nat} {up : List (List Int)} (h : Gv w A C up) (hf : Fine up) (c : Nat) (hc : c < up.length) :
    Calls Tryd.prog 80 #[.slice A up.length C, .int .i64 c] w fun e w' => ∃ A' c', e = .returned (.slice A' (pick (fun i => reachB up i c) up.length).length c') ∧ Rv w' A' c' (pick (fun i => reachB up i c) up.length) ∧ Below w.heap.size w w' := by
  have HF := Aside.mk hf
  have HOF := Aside.mk (of_ w A C up hf.good h.rd)
  have HC6 := Aside.mk (show c < 6 by have := hf.n6; omega)
  have hc6 : (c : Int) < 6 := by have := hf.n6; omega
  clear hf h hc
  go_enter Tryd.func80, Tryd.ntmps80
  go_wp2_with fail
  refine HOF.out.mono ?_
  rintro e w2 ⟨rfl, hb2⟩
  have HB2 := Aside.mk hb2
  clear hb2
  go_wp2_with (first | (with_reducible refine alloc_T rfl rfl ?_) | (with_reducible refine store_T rfl _ _ rfl rfl rfl ?_))
  have HX := Aside.mk (heap_alloc_last w2 (.cells (arr (reachB up)) 110))
  have HB3 := Aside.mk (HB2.out.trans (((Below.refl w2.heap.size w2).alloc (Nat.le_refl _) (.cells (arr (reachB up)) 110)).mono HB2.out.size))
  clear HB2 HOF
  generalize w2.alloc (.cells (arr (reachB up)) 110) = w3 at *
  generalize w2.heap.size = g at *
  go_loopw [6, 7] (fun v x wr => ∃ i : Nat, i ≤ up.length ∧ x = .int .i64 i ∧ Aside (Kd.R (Kd.int .i64) 3 wr w.heap.size (fun _ => True) v (pick (fun i => reachB up i c) i)) ∧ Aside (Below w.heap.size w wr) ∧ Aside (wr.heap[g]? = some (.cells (arr (reachB up)) 110 (0, 0)))) (fun _ x _ => up.length - (intOf x).toNat)
  case atStart => exact ⟨0, Nat.zero_le _, rfl, ⟨Kd.R_nil _ _ _ _ _⟩, HB3, HX⟩
  case round =>
    clear HB3 HX
    obtain ⟨i, hi, rfl, HO, HB, HX⟩ := hrel
    by_cases hlt : i < up.length
    · have t1 : decide ((i : Int) < (up.length : Int)) = true := decide_eq_true (by omega)
      have t2 : decide (i < up.length) = true := decide_eq_true hlt
      have hi6 : (i : Int) < 6 := by have := HF.out.n6; omega
      have HI := Aside.mk hlt
      have hcell : wr.cell? ⟨g, i * 6 + c, none⟩ = some (.bool (reachB up i c)) := by rw [cell_of_row wr g _ _ _ _ HX.out, arr_at _ i c (by have := HC6.out; omega) (by have := HC6.out; omega)]
      have ew := i1 (show i < 4611686018427387904 by have := HF.out.n6; omega)
      have HP := Aside.mk (show pick (fun i => reachB up i c) (i + 1) = pick (fun i => reachB up i c) i ++ (if reachB up i c = true then [(i : Int)] else []) from pick_succ _ _)
      clear hi hlt
      cases hb : reachB up i c with
      | true =>
        rw [hb, if_pos rfl] at HP
        rw [hb] at hcell
        clear hb
        go_wp2_with ((with_reducible refine gate_builtin (b := .append) (xs := #[.tmp 21, .tmp 23]) rfl ?_); at_builtin; refine Kd.R_append (Kd.int .i64) (w0 := w) w.heap.size rfl (.tmp 21) (.tmp 23) 37 3 (.int .i64 0) 8 rfl Tryd.underlying37 info3 rfl (by decide) (by omega) u6 (pick (fun i => reachB up i c) i) (i : Int) [.int .i64 (i : Int)] (fun _ => True) (fun _ => False) rfl rfl ?aP (fun _ hk => hk.elim) ?aF ?aO ?aB ?aS ?aL ?_; (case aP => exact rfl); (case aB => exact HB.out); (case aF => exact (fun _ _ => trivial)); (case aO => exact HO.out); (case aS => exact HB.out.size); (case aL => have := HI.out; have := HF.out.n6; have := pick_len (fun i => reachB up i c) i; omega); intro vN wN hoN hbN hgN hatN; have HON := Aside.mk hoN; have HBN := Aside.mk hbN; have HGN := Aside.mk hgN; clear hoN hbN hgN hatN)
        go_roundw
        case rel => exact ⟨i + 1, HI.out, by first | rfl | simp, ⟨by rw [HP.out]; exact HON.out⟩, HBN, ⟨blk_grown HX.out HGN.out (Kd.R_ne HO.out HX.out (by decide))⟩⟩
        case measure => have := HI.out; have e9 : ((i : Int) + 1).toNat = i + 1 := (by omega); simp only [intOf, e9, Int.toNat_natCast]; omega
      | false =>
        rw [hb, if_neg (by decide), List.append_nil] at HP
        rw [hb] at hcell
        clear hb
        go_wp2
        go_roundw
        case rel => exact ⟨i + 1, HI.out, by first | rfl | simp, ⟨by rw [HP.out]; exact HO.out⟩, HB, HX⟩
        case measure => have := HI.out; have e9 : ((i : Int) + 1).toNat = i + 1 := (by omega); simp only [intOf, e9, Int.toNat_natCast]; omega
    · have t1 : decide ((i : Int) < (up.length : Int)) = false := decide_eq_false (by omega)
      have t2 : decide (i < up.length) = false := decide_eq_false hlt
      obtain rfl : i = up.length := by omega
      clear hlt hi
      go_wp2
      go_ret
      obtain ⟨A', c', rfl, h1, h2⟩ := Kd.R_reads HO.out
      exact ⟨A', c', rfl, ⟨h2, h1⟩, HB.out⟩
def bare (up : List (List Int)) (i : Nat) : Bool := (pick (fun x => reachB up x i) up.length).isEmpty
theorem last_edge {up : List (List Int)} {a b : Nat} (h : Reach up a b) : ∃ m, edge up m b = true := by
  induction h with
  | one e => exact ⟨_, e⟩
  | more _ _ ih => exact ih
theorem bare_named {up : List (List Int)} (h : Fine up) (i : Nat) : bare up i = !namedB up up.length i := by
  cases hn : namedB up up.length i with
  | true =>
    obtain ⟨r, hr, he⟩ := List.any_eq_true.1 hn
    have : pick (fun x => reachB up x i) up.length ≠ [] := fun e => by
      have := pick_nil.1 e r (List.mem_range.1 hr)
      rw [(reachB_iff h.good).2 (.one he)] at this
      exact absurd this (by decide)
    unfold bare
    rw [Bool.eq_false_iff.2 (fun e => this (List.isEmpty_iff.1 e))]; rfl
  | false =>
    have : pick (fun x => reachB up x i) up.length = [] := pick_nil.2 fun c hc => by
      cases hr : reachB up c i with
      | false => rfl
      | true =>
        obtain ⟨m, hm⟩ := last_edge ((reachB_iff h.good).1 hr)
        have : ((List.range up.length).any fun r => edge up r i) = true := List.any_eq_true.2 ⟨m, List.mem_range.2 (edge_lt h.good hm).1, hm⟩
        unfold namedB at hn
        rw [hn] at this; exact absurd this (by decide)
    unfold bare
    rw [this]; rfl
theorem bare_ends {up : List (List Int)} (h : Fine up) : pick (bare up) up.length = endsI up := pick_congr fun x _ => bare_named h x
set_option maxHeartbeats 4000000 in
theorem ref_ends {w : World} {A : Option Addr} {C : Nat} {up : List (List Int)} (h : Gv w A C up) (hf : Fine up) :
    Calls Tryd.prog 45 #[.slice A up.length C] w fun e w' => ∃ A' c', e = .returned (.slice A' (endsI up).length c') ∧ Rv w' A' c' (endsI up) ∧ Below w.heap.size w w' := by
  rw [← bare_ends hf]
  have HF := Aside.mk hf
  have HG := Aside.mk h
  have HB0 := Aside.mk (Below.refl w.heap.size w)
  clear hf h
  go_enter Tryd.func45, Tryd.ntmps45
  go_wp2_with fail
  go_loopw [3, 4] (fun v x wr => ∃ i : Nat, i ≤ up.length ∧ x = .int .i64 i ∧ Aside (Kd.R (Kd.int .i64) 3 wr w.heap.size (fun _ => True) v (pick (bare up) i)) ∧ Aside (Below w.heap.size w wr)) (fun _ x _ => up.length - (intOf x).toNat)
  case atStart => exact ⟨0, Nat.zero_le _, rfl, ⟨Kd.R_nil _ _ _ _ _⟩, HB0⟩
  case round =>
    clear HB0
    obtain ⟨i, hi, rfl, HO, HB⟩ := hrel
    by_cases hlt : i < up.length
    · have t1 : decide ((i : Int) < (up.length : Int)) = true := decide_eq_true (by omega)
      have t2 : decide (i < up.length) = true := decide_eq_true hlt
      have HI := Aside.mk hlt
      have HP := Aside.mk (show pick (bare up) (i + 1) = pick (bare up) i ++ (if bare up i = true then [(i : Int)] else []) from pick_succ _ _)
      have ew := i1 (show i < 4611686018427387904 by have := HF.out.n6; omega)
      clear hlt hi
      go_wp2_with fail
      refine (ref_below (HG.out.below HB.out) HF.out i HI.out).mono ?_
      rintro e W5 ⟨A5, c5, rfl, _, hb5⟩
      have HB5 := Aside.mk (HB.out.trans (hb5.mono HB.out.size))
      have HO5 := Aside.mk (Kd.R_below HO.out hb5)
      clear hb5 HB HO
      have HQ := Aside.mk (show bare up i = (pick (fun x => reachB up x i) up.length).isEmpty from rfl)
      generalize pick (fun x => reachB up x i) up.length = l at HQ ⊢
      by_cases he : l.length = 0
      · have t4 : ((l.length : Int) == 0) = true := by simpa using he
        have HP2 := Aside.mk (show bare up i = true by rw [HQ.out, List.isEmpty_iff]; exact List.eq_nil_of_length_eq_zero he)
        clear he
        go_wp2_with ((with_reducible refine gate_builtin (b := .append) (xs := #[.tmp 16, .tmp 18]) rfl ?_); at_builtin; refine Kd.R_append (Kd.int .i64) (w0 := w) w.heap.size rfl (.tmp 16) (.tmp 18) 37 3 (.int .i64 0) 8 rfl Tryd.underlying37 info3 rfl (by decide) (by omega) u3 (pick (bare up) i) (i : Int) [.int .i64 (i : Int)] (fun _ => True) (fun _ => False) rfl rfl ?aP (fun _ hk => hk.elim) ?aF ?aO ?aB ?aS ?aL ?_; (case aP => exact rfl); (case aB => exact HB5.out); (case aF => exact (fun _ _ => trivial)); (case aO => exact HO5.out); (case aS => exact HB5.out.size); (case aL => have := HI.out; have := HF.out.n6; have := pick_len (bare up) i; omega); intro vN wN hoN hbN hgN hatN; have HON := Aside.mk hoN; have HBN := Aside.mk hbN; have HGN := Aside.mk hgN; clear hoN hbN hgN hatN)
        go_roundw
        case rel => exact ⟨i + 1, HI.out, by first | rfl | simp, ⟨by rw [HP.out, if_pos HP2.out]; exact HON.out⟩, HBN⟩
        case measure => have := HI.out; have e9 : ((i : Int) + 1).toNat = i + 1 := (by omega); simp only [intOf, e9, Int.toNat_natCast]; omega
      · have t4 : ((l.length : Int) == 0) = false := by simpa using he
        have HP2 := Aside.mk (show ¬ bare up i = true by rw [HQ.out, List.isEmpty_iff]; intro e; rw [e] at he; exact he rfl)
        clear he
        go_wp2
        go_roundw
        case rel => exact ⟨i + 1, HI.out, by first | rfl | simp, ⟨by rw [HP.out, if_neg HP2.out, List.append_nil]; exact HO5.out⟩, HB5⟩
        case measure => have := HI.out; have e9 : ((i : Int) + 1).toNat = i + 1 := (by omega); simp only [intOf, e9, Int.toNat_natCast]; omega
    · have t1 : decide ((i : Int) < (up.length : Int)) = false := decide_eq_false (by omega)
      have t2 : decide (i < up.length) = false := decide_eq_false hlt
      obtain rfl : i = up.length := by omega
      clear hlt hi
      go_wp2
      go_ret
      obtain ⟨A', c', rfl, h1, h2⟩ := Kd.R_reads HO.out
      exact ⟨A', c', rfl, ⟨h2, h1⟩, HB.out⟩
end Go.Proofs.YtgibmlbdkijflaaDoor.Graph
