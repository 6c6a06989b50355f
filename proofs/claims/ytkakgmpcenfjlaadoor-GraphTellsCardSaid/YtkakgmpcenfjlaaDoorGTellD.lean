/- sakiaref09.Depth walked: an array of six, lengthened six times over; it holds each one's depth. -/
import Derived.Test.YtkakgmpcenfjlaaDoorGTell
set_option linter.unusedVariables false
set_option linter.unusedSimpArgs false
set_option maxRecDepth 100000
namespace Go.Proofs.YtkakgmpcenfjlaaDoor.Graph
open Go.RowKit Go.Proofs.YtkakgmpcenfjlaaDoorW.PrintWords Go.Proofs.YtkakgmpcenfjlaaDoorW.PrintLast
/-! ### plain -/
def put1 (f : Nat → Nat) (i v : Nat) : Nat → Nat := fun x => if x = i then v else f x
/-- Round k, behind i rows and j names of the next one. -/
structure DK (up : List (List Int)) (k i j : Nat) (f : Nat → Nat) : Prop where
  hi : ∀ x, x < up.length → f x ≤ depth up x
  lo : ∀ x, x < up.length → dep up k x ≤ f x
  done : ∀ x, x < i → dep up (k + 1) x ≤ f x
  row : depL (dep up k) ((up.getD i []).take j) ≤ f i
theorem DK.zero (up : List (List Int)) : DK up 0 0 0 (fun _ => 0) := ⟨fun _ _ => Nat.zero_le _, fun _ _ => Nat.le_refl _, fun x h => by omega, by simp [depL]⟩
theorem DK.start {up : List (List Int)} {k i : Nat} {f : Nat → Nat} (h : DK up k i (up.getD i []).length f) : DK up k (i + 1) 0 f :=
  ⟨h.hi, h.lo, fun x hx => by
    by_cases e : x = i
    · subst e
      have := h.row
      rw [List.take_length] at this
      exact this
    · exact h.done x (by omega), by simp [depL]⟩
theorem DK.next {up : List (List Int)} {k : Nat} {f : Nat → Nat} (h : DK up k up.length 0 f) : DK up (k + 1) 0 0 f :=
  ⟨h.hi, fun x hx => h.done x hx, fun x hx => by omega, by simp [depL]⟩
theorem DK.step {up : List (List Int)} (hf : Fine up) {k i j u : Nat} {f : Nat → Nat} (h : DK up k i j f) (hj : j < (up.getD i []).length) (hu : (up.getD i [])[j] = (u : Int)) (hul : u < up.length) (hil : i < up.length) (he : edge up i u = true) :
    DK up k i (j + 1) (put1 f i (max (f i) (f u + 1))) := by
  have hge : ∀ x, f x ≤ put1 f i (max (f i) (f u + 1)) x := fun x => by
    unfold put1; split
    · next e => subst e; omega
    · exact Nat.le_refl _
  refine ⟨fun x hx => ?_, fun x hx => Nat.le_trans (h.lo x hx) (hge x), fun x hx => Nat.le_trans (h.done x hx) (hge x), ?_⟩
  · unfold put1; split
    · next e =>
      subst e
      have h1 := h.hi x hx
      have h2 := h.hi u hul
      have h3 := depth_edge hf he
      omega
    · exact h.hi x hx
  · rw [List.take_succ_eq_append_getElem hj, depL_snoc, hu, Int.toNat_natCast]
    have h1 := h.row
    have h2 := h.lo u hul
    unfold put1
    rw [if_pos rfl]
    omega
theorem DK.last {up : List (List Int)} (hf : Fine up) {f : Nat → Nat} (h : DK up 6 0 0 f) {c : Nat} (hc : c < up.length) : f c = depth up c := by
  have h1 := h.hi c hc
  have h2 := h.lo c hc
  rw [depth_of hf (by have := rank_five hf hc; omega) (by omega)] at h2
  omega
/-! ### the array -/
def arrI (f : Nat → Nat) : Array Value := ((List.range 6).map fun j => Value.int .i64 ((f j : Nat) : Int)).toArray
theorem arrI_at (f : Nat → Nat) (i : Nat) (hi : i < 6) : (arrI f)[i]? = some (.int .i64 ((f i : Nat) : Int)) := by simp [arrI, hi]
theorem arrI_set (f : Nat → Nat) (i v : Nat) (hi : i < 6) : (arrI f).setIfInBounds i (.int .i64 (v : Nat)) = arrI (put1 f i v) := by
  apply Array.ext_getElem?
  intro j
  rw [Array.getElem?_setIfInBounds]
  by_cases e : i = j
  · subst e
    rw [if_pos rfl, if_pos (by simp [arrI]; exact hi), arrI_at _ _ hi]
    simp [put1]
  · rw [if_neg e]
    by_cases hj : j < 6
    · rw [arrI_at _ _ hj, arrI_at _ _ hj]
      unfold put1
      rw [if_neg (fun h => e h.symm)]
    · rw [Array.getElem?_eq_none (by simp [arrI]; omega), Array.getElem?_eq_none (by simp [arrI]; omega)]
set_option maxHeartbeats 8000000 in
theorem ref_depth {w : World} {A : Option Addr} {C : Nat} {up : List (List Int)} (h : Gv w A C up) (hf : Fine up) (c : Nat) (hc : c < up.length) :
    Calls Tryd.prog 27 #[.slice A up.length C, .int .i64 c] w fun e w' => e = .returned (.int .i64 (depth up c)) ∧ Below w.heap.size w w' := by
  have HF := Aside.mk hf
  have HG := Aside.mk h
  have HCL := Aside.mk hc
  have hc6 : (c : Int) < 6 := by have := hf.n6; omega
  clear hf h hc
  go_enter Tryd.func27, Tryd.ntmps27
  go_wp2_with fail
  have HX := Aside.mk (show (w.alloc (.cells #[.int .i64 0, .int .i64 0, .int .i64 0, .int .i64 0, .int .i64 0, .int .i64 0] 51)).heap[w.heap.size]? = some (.cells (arrI fun _ => 0) 51 (0, 0)) from heap_alloc_new w _)
  have HB0 := Aside.mk (below_alloc_ w (.cells #[.int .i64 0, .int .i64 0, .int .i64 0, .int .i64 0, .int .i64 0, .int .i64 0] 51))
  have HGE := Aside.mk (Nat.le_refl w.heap.size)
  generalize w.alloc (.cells #[.int .i64 0, .int .i64 0, .int .i64 0, .int .i64 0, .int .i64 0, .int .i64 0] 51) = w1 at *
  obtain ⟨g, hg⟩ : ∃ g, g = w.heap.size := ⟨_, rfl⟩
  rw [← hg] at HX ⊢
  replace HGE := Aside.mk (show w.heap.size ≤ g by omega)
  clear hg
  go_loopw [6] (fun x wr => ∃ (k : Nat) (f : Nat → Nat), k ≤ 6 ∧ x = .int .i64 k ∧ Aside (DK up k 0 0 f) ∧ Aside (wr.heap[g]? = some (.cells (arrI f) 51 (0, 0))) ∧ Aside (Below w.heap.size w wr)) (fun x _ => 6 - (intOf x).toNat)
  case atStart => exact ⟨0, _, by omega, rfl, ⟨DK.zero up⟩, HX, HB0⟩
  case round =>
    clear HX HB0
    obtain ⟨k, f, hk, rfl, HD, HX, HB⟩ := hrel
    by_cases hlt : k < 6
    · have t1 : decide ((k : Int) < 6) = true := decide_eq_true (by omega)
      have t2 : decide (k < 6) = true := decide_eq_true hlt
      have HK := Aside.mk hlt
      have ek := i1 (show k < 4611686018427387904 by omega)
      clear hk hlt
      go_wp2_with fail
      clear t1 t2
      go_loopw [7] (fun x wr => ∃ (i : Nat) (f : Nat → Nat), i ≤ up.length ∧ x = .int .i64 i ∧ Aside (DK up k i 0 f) ∧ Aside (wr.heap[g]? = some (.cells (arrI f) 51 (0, 0))) ∧ Aside (Below w.heap.size w wr)) (fun x _ => up.length - (intOf x).toNat)
      case atStart => exact ⟨0, f, by omega, rfl, HD, HX, HB⟩
      case round =>
        clear HD HX HB f
        obtain ⟨i, f, hi, rfl, HD, HX, HB⟩ := hrel
        by_cases hlt : i < up.length
        · have t1 : decide ((i : Int) < (up.length : Int)) = true := decide_eq_true (by omega)
          have t2 : decide (i < up.length) = true := decide_eq_true hlt
          have t3 : (i : Int) < (up.length : Int) := by omega
          have HI := Aside.mk hlt
          obtain ⟨ad, A0, c0, rfl, hrow, hl0, hnum⟩ := row_at HG.out.rd i hlt
          have HAT := Aside.mk (fun j (hj : j < (up.getD i []).length) => rowAt HF.out hlt hj)
          have HSTEP := Aside.mk (fun (j u : Nat) (f : Nat → Nat) (h : DK up k i j f) (hj : j < (up.getD i []).length) (hu : (up.getD i [])[j] = (u : Int)) (hul : u < up.length) (he : edge up i u = true) => h.step HF.out hj hu hul hlt he)
          obtain ⟨l, hL⟩ : ∃ l, up.getD i [] = l := ⟨_, rfl⟩
          have HST := Aside.mk (fun f (h : DK up k i l.length f) => DK.start (by rw [hL]; exact h))
          have HL20 := Aside.mk (show l.length ≤ 20 by rw [← hL]; exact HG.out.sm.at i)
          rw [hL] at hrow hnum HAT HSTEP
          have HROW := Aside.mk hrow
          have HN := Aside.mk hnum
          have hi6 : (i : Int) < 6 := by have := HF.out.n6; omega
          have ei := i1 (show i < 4611686018427387904 by have := HF.out.n6; omega)
          clear hrow hl0 hnum hL hi hlt
          go_wp2_with fail
          clear t1 t2
          go_loopw [8] (fun x wr => ∃ (j : Nat) (f : Nat → Nat), j ≤ l.length ∧ x = .int .i64 j ∧ Aside (DK up k i j f) ∧ Aside (wr.heap[g]? = some (.cells (arrI f) 51 (0, 0))) ∧ Aside (Below w.heap.size w wr)) (fun x _ => l.length - (intOf x).toNat)
          case atStart => exact ⟨0, f, by omega, rfl, HD, HX, HB⟩
          case round =>
            clear HD HX HB f
            obtain ⟨j, f, hj, rfl, HD, HX, HB⟩ := hrel
            have hroww : wr.cell? (ad.add i) = some (.slice A0 l.length c0) := (HB.out.cell (World.block_lt_of_cell? _ _ HROW.out)).trans HROW.out
            by_cases hlt : j < l.length
            · have t1 : decide ((j : Int) < (l.length : Int)) = true := decide_eq_true (by omega)
              have t2 : decide (j < l.length) = true := decide_eq_true hlt
              have t4 : (j : Int) < (l.length : Int) := by omega
              have HJ := Aside.mk hlt
              obtain ⟨u, hu, hul, hue⟩ := HAT.out j hlt
              obtain ⟨a0, rfl, hx⟩ := num_at HN.out j hlt hlt
              rw [hu] at hx
              have hxw : wr.cell? (a0.add j) = some (.int .i64 u) := (HB.out.cell (World.block_lt_of_cell? _ _ hx)).trans hx
              have hu6 : (u : Int) < 6 := by have := HF.out.n6; omega
              have hci : wr.cell? ⟨g, i, none⟩ = some (.int .i64 ((f i : Nat) : Int)) := (blk_cell HX.out i).trans (arrI_at f i (by omega))
              have hcu : wr.cell? ⟨g, u, none⟩ = some (.int .i64 ((f u : Nat) : Int)) := (blk_cell HX.out u).trans (arrI_at f u (by omega))
              have hfi : wr.frozen? ⟨g, i, none⟩ = false := blk_frozen HX.out i
              have HFI := Aside.mk (show f i ≤ 5 by have := HD.out.hi i HI.out; have := depth_five HF.out HI.out; omega)
              have HFU := Aside.mk (show f u ≤ 5 by have := HD.out.hi u hul; have := depth_five HF.out hul; omega)
              have e1 : IntKind.i64.wrap (((f u : Nat) : Int) + 1) = ((f u + 1 : Nat) : Int) := by rw [IntKind.wrap_i64]; have := HFU.out; omega
              have e3 : (if ((f i : Nat) : Int) < ((f u : Nat) : Int) + 1 then ((f u : Nat) : Int) + 1 else ((f i : Nat) : Int)) = ((max (f i) (f u + 1) : Nat) : Int) := by split <;> omega
              have HXN := Aside.mk (show (wr.drew.setCell ⟨g, i, none⟩ (.int .i64 (if ((f i : Nat) : Int) < ((f u : Nat) : Int) + 1 then ((f u : Nat) : Int) + 1 else ((f i : Nat) : Int)))).heap[g]? = some (.cells (arrI (put1 f i (max (f i) (f u + 1)))) 51 (0, 0)) by rw [e3]; exact blk_put (blk_drew HX.out) i _ (arrI_set f i _ (by omega)))
              have HBN := Aside.mk (below_set (j := i) (v := .int .i64 (if ((f i : Nat) : Int) < ((f u : Nat) : Int) + 1 then ((f u : Nat) : Int) + 1 else ((f i : Nat) : Int))) (below_drew HB.out) HGE.out)
              clear e3
              have HDN := Aside.mk (HSTEP.out j u f HD.out hlt hu hul hue)
              have HI6 := Aside.mk (show i < 6 by omega)
              have ej := i1 (show j < 4611686018427387904 by have := HL20.out; omega)
              clear hj hlt hu hul hue hx
              go_wp2_with fail
              go_still_tail 16, (by kernel_rfl)
              go_wp2
              go_roundw
              case rel => exact ⟨j + 1, _, HJ.out, by first | rfl | simp, HDN, HXN, HBN⟩
              case measure =>
                have := HJ.out
                have e9 : ((j : Int) + 1).toNat = j + 1 := by omega
                simp only [intOf, e9, Int.toNat_natCast]
                omega
            · have t1 : decide ((j : Int) < (l.length : Int)) = false := decide_eq_false (by omega)
              have t2 : decide (j < l.length) = false := decide_eq_false hlt
              obtain rfl : j = l.length := by omega
              clear hlt hj
              go_wp2
              go_roundw
              case rel => exact ⟨i + 1, f, HI.out, by first | rfl | simp, ⟨HST.out f HD.out⟩, HX, HB⟩
              case measure =>
                have := HI.out
                have e9 : ((i : Int) + 1).toNat = i + 1 := by omega
                simp only [intOf, e9, Int.toNat_natCast]
                omega
        · have t1 : decide ((i : Int) < (up.length : Int)) = false := decide_eq_false (by omega)
          have t2 : decide (i < up.length) = false := decide_eq_false hlt
          obtain rfl : i = up.length := by omega
          clear hlt hi
          go_wp2
          go_roundw
          case rel => exact ⟨k + 1, f, HK.out, by first | rfl | simp, ⟨HD.out.next⟩, HX, HB⟩
          case measure =>
            have := HK.out
            have e9 : ((k : Int) + 1).toNat = k + 1 := by omega
            simp only [intOf, e9, Int.toNat_natCast]
            omega
    · have t1 : decide ((k : Int) < 6) = false := decide_eq_false (by omega)
      have t2 : decide (k < 6) = false := decide_eq_false hlt
      obtain rfl : k = 6 := by omega
      have hcc : wr.cell? ⟨g, c, none⟩ = some (.int .i64 ((depth up c : Nat) : Int)) := (blk_cell HX.out c).trans (by rw [arrI_at f c (by omega), HD.out.last HF.out HCL.out])
      clear hlt hk
      go_wp2
      go_ret
      exact ⟨rfl, HB.out⟩
end Go.Proofs.YtkakgmpcenfjlaaDoor.Graph
