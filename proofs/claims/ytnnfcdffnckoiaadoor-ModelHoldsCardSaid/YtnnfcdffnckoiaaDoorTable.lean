/- The document's table of who is above whom (sakiaref09.Of). -/
import Derived.Test.YtnnfcdffnckoiaaDoorQGp
import Derived.Test.YtnnfcdffnckoiaaDoorAbove
import Derived.Deep.WholeRow
import Derived.StillTailTactics
import Derived.RegionTactic
import Derived.Outline
set_option linter.unusedVariables false
set_option linter.unusedSimpArgs false
set_option maxRecDepth 100000
namespace Go.Proofs.YtnnfcdffnckoiaaDoor.Graph
open Go.RowKit Go.Proofs.YtnnfcdffnckoiaaDoorW.PrintWords Go.Proofs.YtnnfcdffnckoiaaDoorW.PrintLast
/-- A table's cells. -/
def arr (T : Nat → Nat → Bool) : Array Value := ((List.range 36).map fun j => Value.bool (T (j / 6) (j % 6))).toArray
def noT : Nat → Nat → Bool := fun _ _ => false
theorem arr_size (T : Nat → Nat → Bool) : (arr T).size = 36 := by simp [arr]
theorem arr_at (T : Nat → Nat → Bool) (a b : Nat) (ha : a < 6) (hb : b < 6) : (arr T)[a * 6 + b]? = some (.bool (T a b)) := by
  have h1 : (a * 6 + b) / 6 = a := by omega
  have h2 : (a * 6 + b) % 6 = b := by omega
  have h3 : a * 6 + b < 36 := by omega
  simp [arr, List.getElem?_range h3, h1, h2]
def upd (T : Nat → Nat → Bool) (a b : Nat) (v : Bool) : Nat → Nat → Bool := fun x y => if x = a ∧ y = b then v else T x y
theorem arr_set (T : Nat → Nat → Bool) (a b : Nat) (v : Bool) (ha : a < 6) (hb : b < 6) : (arr T).setIfInBounds (a * 6 + b) (.bool v) = arr (upd T a b v) := by
  apply Array.ext_getElem?
  intro j
  by_cases hj : j < 36
  · rw [Array.getElem?_setIfInBounds]
    have e : j = j / 6 * 6 + j % 6 := by omega
    by_cases hab : a * 6 + b = j
    · subst hab
      rw [if_pos rfl, if_pos (by rw [arr_size]; exact hj), arr_at _ _ _ ha hb]
      simp [upd]
    · rw [if_neg hab]
      rw [e, arr_at _ _ _ (by omega) (by omega), arr_at _ _ _ (by omega) (by omega)]
      unfold upd
      rw [if_neg (by omega)]
  · rw [Array.getElem?_eq_none (by rw [Array.size_setIfInBounds, arr_size]; omega), Array.getElem?_eq_none (by rw [arr_size]; omega)]
theorem arr_congr {T T' : Nat → Nat → Bool} (h : ∀ x y, x < 6 → y < 6 → T x y = T' x y) : arr T = arr T' := by
  unfold arr
  congr 1
  apply List.map_congr_left
  intro j hj
  have := List.mem_range.1 hj
  rw [h _ _ (by omega) (by omega)]
/-- A block that is a table. -/
structure TabAt (w0 w : World) (r g : Nat) (T : Nat → Nat → Bool) : Prop where
  B : Below w0.heap.size w0 w
  hT : w.heap[g]? = some (.cells (arr T) 113 (0, 0))
  lg : w0.heap.size ≤ g
  hR : w.heap[r]? = some (.cells (arr noT) 113 (0, 0))
  ne : r ≠ g
theorem TabAt.cell {w0 w : World} {r g : Nat} {T : Nat → Nat → Bool} (h : TabAt w0 w r g T) (a b : Nat) (ha : a < 6) (hb : b < 6) : w.cell? ⟨g, a * 6 + b, none⟩ = some (.bool (T a b)) := by
  rw [cell_of_row w g _ _ _ _ h.hT, arr_at T a b ha hb]
theorem TabAt.frozen {w0 w : World} {r g : Nat} {T : Nat → Nat → Bool} (h : TabAt w0 w r g T) (i : Nat) : w.frozen? ⟨g, i, none⟩ = false := frozen_of_row w g i _ _ h.hT
theorem TabAt.put {w0 w : World} {r g : Nat} {T : Nat → Nat → Bool} (h : TabAt w0 w r g T) (a b : Nat) (v : Bool) (ha : a < 6) (hb : b < 6) : TabAt w0 (w.setCell ⟨g, a * 6 + b, none⟩ (.bool v)) r g (upd T a b v) :=
  ⟨h.B.setCell h.lg _, by rw [← arr_set T a b v ha hb]; exact blk_put h.hT _ _ rfl, h.lg, (Below.heap_setCell w ⟨g, a * 6 + b, none⟩ _ r h.ne).trans h.hR, h.ne⟩
theorem TabAt.congr {w0 w : World} {r g : Nat} {T T' : Nat → Nat → Bool} (h : TabAt w0 w r g T) (e : ∀ x y, x < 6 → y < 6 → T x y = T' x y) : TabAt w0 w r g T' := ⟨h.B, by rw [← arr_congr e]; exact h.hT, h.lg, h.hR, h.ne⟩
theorem TabAt.drew {w0 w : World} {r g : Nat} {T : Nat → Nat → Bool} (h : TabAt w0 w r g T) : TabAt w0 w.drew r g T := ⟨h.B.drew, h.hT, h.lg, h.hR, h.ne⟩
theorem infoT : (Tryd.prog.info? 113).map (fun i => (i.zero, i.size)) = some (some (.agg (arr noT)), 36) := by kernel_rfl
theorem builtT : Tryd.prog.built 113 [] = some (arr noT) := by kernel_rfl
theorem still_want {P : Program} {ops : Array Oper} {w : World} {Q : Act → Prop} {a : Act} {o : Oper} {rest : List Oper} (hw : Region.wanted o (yielded ops a.tmps) = true)
    (h : ∀ K : Act → Prop, (∀ a, wpStill P ops w Q rest a → K a) → o.still P a w K) : wpStill P ops w Q (o :: rest) a := by
  refine wpStill_step fun K hK => ?_
  rw [if_pos hw]
  exact h K hK
theorem still_skip {P : Program} {ops : Array Oper} {w : World} {Q : Act → Prop} {a : Act} {o : Oper} {rest : List Oper} (hw : Region.wanted o (yielded ops a.tmps) = false)
    (h : ∀ K : Act → Prop, (∀ a, wpStill P ops w Q rest a → K a) → K (a.put o.dst undef)) : wpStill P ops w Q (o :: rest) a := by
  refine wpStill_step fun K hK => ?_
  rw [if_neg (by rw [hw]; decide)]
  exact h K hK
/-- Behind the lists of c of them. -/
def fst (up : List (List Int)) (c : Nat) : Nat → Nat → Bool := fun x y => decide (x < c) && edge up x y
/-- And behind i names of the next one. -/
def snd_ (up : List (List Int)) (c i : Nat) : Nat → Nat → Bool := fun x y => fst up c x y || (decide (x = c) && ((up.getD c []).take i).contains (y : Int))
/-- Behind m of the 36 places, lengthened by k. -/
def mix (up : List (List Int)) (k m : Nat) : Nat → Nat → Bool := fun x y => if x * 6 + y < m then tab up (k + 1) x y else tab up k x y
theorem snd_zero (up : List (List Int)) (c x y : Nat) : snd_ up c 0 x y = fst up c x y := by simp [snd_]
theorem snd_all (up : List (List Int)) (c x y : Nat) : snd_ up c (up.getD c []).length x y = fst up (c + 1) x y := by
  unfold snd_ fst edge
  rw [List.take_of_length_le (Nat.le_refl _)]
  by_cases e : x = c
  · subst e; simp
  · have : decide (x < c + 1) = decide (x < c) := by rw [decide_eq_decide]; omega
    rw [this, decide_eq_false e]; simp
theorem snd_step (up : List (List Int)) (c i u : Nat) (hi : i < (up.getD c []).length) (hu : (up.getD c [])[i] = (u : Int)) (x y : Nat) : upd (snd_ up c i) c u true x y = snd_ up c (i + 1) x y := by
  unfold upd snd_
  rw [List.take_succ_eq_append_getElem hi, List.contains_eq_mem, List.contains_eq_mem, hu]
  by_cases e : x = c
  · subst e
    by_cases e2 : y = u
    · subst e2; simp
    · have : ¬ ((y : Int) = (u : Int)) := by omega
      simp [e2, this]
  · simp [e]
theorem mix_zero (up : List (List Int)) (k x y : Nat) : mix up k 0 x y = tab up k x y := by simp [mix]
theorem mix_all (up : List (List Int)) (k x y : Nat) (hx : x < 6) (hy : y < 6) : mix up k 36 x y = tab up (k + 1) x y := by
  unfold mix
  rw [if_pos (by omega)]
theorem mix_col (up : List (List Int)) (k m a : Nat) : mix up k m a k = tab up k a k := by
  unfold mix
  rw [tab_col]
  split <;> rfl
theorem mix_row (up : List (List Int)) (k m b : Nat) : mix up k m k b = tab up k k b := by
  unfold mix
  rw [tab_row]
  split <;> rfl
theorem mix_here (up : List (List Int)) (k a b : Nat) : mix up k (a * 6 + b) a b = tab up k a b := by
  unfold mix
  rw [if_neg (by omega)]
theorem mix_step (up : List (List Int)) (k a b : Nat) (ha : a < 6) (hb : b < 6) (x y : Nat) (hx : x < 6) (hy : y < 6) :
    upd (mix up k (a * 6 + b)) a b (tab up k a b || (tab up k a k && tab up k k b)) x y = mix up k (a * 6 + b + 1) x y := by
  unfold upd mix
  by_cases e : x = a ∧ y = b
  · rw [if_pos e, if_pos (by omega), e.1, e.2]
    rfl
  · rw [if_neg e]
    by_cases h : x * 6 + y < a * 6 + b
    · rw [if_pos h, if_pos (by omega)]
    · rw [if_neg h, if_neg (by omega)]
section
variable {ops : Array Oper} {rest : List Oper} {o : Oper} {a : Act} {w : World} {Q : Exit → Act → World → Prop}
theorem alloc_T (hg : o.guard = none) (ho : o.op = .alloc 113)
    (h : wpList Tryd.prog ops Q rest (a.put o.dst (.pointer (some ⟨w.heap.size, 0, none⟩))) (w.alloc (.cells (arr noT) 113))) : wpList Tryd.prog ops Q (o :: rest) a w :=
  wpList_plain hg fun _ hK => by
    have z := (zero_of_info infoT).1 w
    unfold Oper.wp execOp
    simp only [ho, Instr.alloc, Sem.run_bind, z, Result.andThen_ok, newVar, Value.cells, run_newObj_alloc, Sem.run_pure, Oper.upon_value]
    exact hK _ _ h
theorem build_T (hg : o.guard = none) (ho : o.op = .build 113 #[])
    (h : wpList Tryd.prog ops Q rest (a.put o.dst (.agg (arr noT))) w) : wpList Tryd.prog ops Q (o :: rest) a w :=
  wpList_build hg _ #[] ho (by simp only [List.map_toArray, List.map_nil]; rw [builtT]; rfl) (by
    simp only [List.map_toArray, List.map_nil]
    rw [builtT]; exact h)
theorem store_T (hgd : o.guard = none) (x y : Operand) (ho : o.op = .store 113 x y) {w1 : World} {T T' : Nat → Nat → Bool}
    (hx : a.eval x = .pointer (some ⟨w1.heap.size, 0, none⟩)) (hy : a.eval y = .agg (arr T'))
    (h : wpList Tryd.prog ops Q rest (a.put o.dst undef) (w1.alloc (.cells (arr T') 113))) : wpList Tryd.prog ops Q (o :: rest) a (w1.alloc (.cells (arr T) 113)) :=
  wpList_store_row hgd _ x y ho w1.heap.size (arr T') hx hy _ (arr T) (heap_alloc_last w1 _) (by rw [(zero_of_info infoT).2, arr_size]) (by rw [arr_size, arr_size])
    (by simp [arr, Value.oneCell']) (by rw [World.setRow_alloc_new]; exact h)
end
set_option maxHeartbeats 2000000 in
theorem of_ (w : World) (A : Option Addr) (C : Nat) (up : List (List Int)) (hg : GoodUp up) (hr : Kd.C (Kd.slice 3 (Kd.int .i64)) w A up.length up) :
    Calls Tryd.prog 93 #[.slice A up.length C] w fun e w' => e = .returned (.agg (arr (reachB up))) ∧ Below w.heap.size w w' := by
  go_enter Tryd.func93, Tryd.ntmps93
  go_wp2_with (first | (with_reducible refine alloc_T rfl rfl ?_) | (with_reducible refine build_T rfl rfl ?_) | (with_reducible refine store_T rfl _ _ rfl rfl rfl ?_))
  have hT0 : TabAt w ((w.alloc (.cells (arr noT) 113)).alloc (.cells (arr noT) 113)) w.heap.size (w.heap.size + 1) (fst up 0) :=
    TabAt.congr ⟨((Below.refl w.heap.size w).alloc (Nat.le_refl _) _).alloc (by simp) _, heap_alloc2_new w _ _, by omega, heap_alloc2_old w _ _, by omega⟩ (fun x y _ _ => by simp [noT, fst])
  have hR0 : ((w.alloc (.cells (arr noT) 113)).alloc (.cells (arr noT) 113)).heap[w.heap.size]? = some (.cells (arr noT) 113 (0, 0)) := heap_alloc2_old w _ _
  have hz0 : w.heap.size + 1 < ((w.alloc (.cells (arr noT) 113)).alloc (.cells (arr noT) 113)).heap.size := by simp
  generalize ((w.alloc (.cells (arr noT) 113)).alloc (.cells (arr noT) 113)) = w1 at *
  obtain ⟨g, hgz⟩ : ∃ g, Aside0 (w.heap.size = g) := ⟨_, ⟨rfl⟩⟩
  rw [hgz.out] at hT0 hR0 hz0 ⊢
  have HT := Aside0.mk hT0
  have HR0 := Aside0.mk hR0
  have HG := Aside0.mk hg
  have HR := Aside0.mk hr
  have hn6 := hg.1
  clear hT0 hR0 hg hr
  go_loopw [4] (fun v wr => ∃ c : Nat, c ≤ up.length ∧ v = .int .i64 c ∧ TabAt w wr g (g + 1) (fst up c)) (fun v _ => up.length - (intOf v).toNat)
  case atStart => exact ⟨0, Nat.zero_le _, rfl, HT.out⟩
  case round =>
    obtain ⟨c, hc, rfl, hTc⟩ := hrel
    have HTc := Aside0.mk hTc
    clear hTc
    by_cases hlt : c < up.length
    · have t1 : decide ((c : Int) < (up.length : Int)) = true := decide_eq_true (by omega)
      have hci : (c : Int) < (up.length : Int) := by omega
      have hc6 : c < 6 := by omega
      obtain ⟨ad, A0, c0, rfl, hrow, hl0, hnum⟩ := row_at HR.out c hlt
      have hlt0 : ∀ u ∈ up.getD c [], 0 ≤ u ∧ u < 6 := fun u hu => by
        rw [List.getD_eq_getElem?_getD, List.getElem?_eq_getElem hlt] at hu
        have := HG.out.2 _ (List.getElem_mem hlt) u hu
        omega
      obtain ⟨l, hL⟩ : ∃ l, up.getD c [] = l := ⟨_, rfl⟩
      rw [hL] at hrow hl0 hnum hlt0
      have hln := Kd.C_max hnum
      have HROW := Aside0.mk hrow
      have HN := Aside0.mk hnum
      have HL := Aside0.mk hL
      have HLT := Aside0.mk hlt0
      have HCL := Aside0.mk hlt
      clear hrow hnum hL hlt0 hlt
      obtain ⟨wo, hwo⟩ : ∃ wo : World, wo = wr := ⟨_, rfl⟩
      rw [← hwo] at HTc ⊢
      clear hwo
      go_wp2_with fail
      go_loopw [5] (fun v wr => ∃ i : Nat, i ≤ l.length ∧ v = .int .i64 i ∧ TabAt w wr g (g + 1) (snd_ up c i)) (fun v _ => l.length - (intOf v).toNat)
      case atStart => exact ⟨0, Nat.zero_le _, rfl, HTc.out.congr fun x y _ _ => (snd_zero up c x y).symm⟩
      case round =>
        obtain ⟨i, hi, rfl, hTi⟩ := hrel
        have HTi := Aside0.mk hTi
        have hroww : wr.cell? (ad.add c) = some (.slice A0 l.length c0) := by rw [← HROW.out]; exact hTi.B.cell (World.block_lt_of_cell? _ _ HROW.out)
        by_cases hlti : i < l.length
        · obtain ⟨a0, rfl, hx⟩ := num_at HN.out i hlti hlti
          have hxw : wr.cell? (a0.add i) = some (.int .i64 l[i]) := by rw [← hx]; exact hTi.B.cell (World.block_lt_of_cell? _ _ hx)
          have hb6 := HLT.out _ (List.getElem_mem hlti)
          obtain ⟨u, hu⟩ : ∃ u : Nat, l[i] = (u : Int) := ⟨l[i].toNat, by omega⟩
          rw [hu] at hxw hb6
          have hu6 : u < 6 := by omega
          have HU := Aside0.mk hu
          have HI := Aside0.mk hlti
          have t1 : (i : Int) < (l.length : Int) := by omega
          have hu6i : (u : Int) < 6 := by omega
          have hc6i : (c : Int) < 6 := by omega
          have hcell := hTi.cell c u hc6 hu6
          have hfro := hTi.frozen (c * 6 + u)
          have HP := Aside0.mk ((hTi.drew.put c u true hc6 hu6).congr fun x y _ _ => by rw [snd_step up c i u (by rw [HL.out]; exact HI.out) (by simp only [HL.out]; exact HU.out)])
          clear hx hu hTi hb6
          go_wp2_with fail
          go_still_tail 10, (by kernel_rfl)
          go_wp2_with fail
          go_roundw
          case rel => exact ⟨i + 1, by omega, by go_num, HP.out⟩
          case measure => simp [intOf]; omega
        · have t1 : decide ((i : Int) < (l.length : Int)) = false := decide_eq_false (by omega)
          have hil : i = l.length := by omega
          subst hil
          go_wp2_with fail
          go_roundw
          case rel => exact ⟨c + 1, by have := HCL.out; omega, by go_num, HTi.out.congr fun x y _ _ => by rw [← snd_all up c x y, HL.out]⟩
          case measure => simp [intOf]; omega
    · have t1 : decide ((c : Int) < (up.length : Int)) = false := decide_eq_false (by omega)
      have hcl : c = up.length := by omega
      subst hcl
      have HM := Aside0.mk (show TabAt w wr g (g + 1) (tab up 0) from HTc.out.congr fun x y hx hy => by
        show (decide (x < up.length) && edge up x y) = edge up x y
        by_cases e : edge up x y = true
        · rw [e, decide_eq_true (edge_lt HG.out e).1]; rfl
        · rw [Bool.eq_false_iff.2 e, Bool.and_false])
      clear HTc
      obtain ⟨wo, hwo⟩ : ∃ wo : World, wo = wr := ⟨_, rfl⟩
      rw [← hwo] at HM ⊢
      clear hwo
      go_wp2_with fail
      go_loopw [6] (fun v wr => ∃ k : Nat, k ≤ 6 ∧ v = .int .i64 k ∧ TabAt w wr g (g + 1) (tab up k)) (fun v _ => 6 - (intOf v).toNat)
      case atStart => exact ⟨0, by omega, rfl, HM.out⟩
      case round =>
        obtain ⟨k, hk, rfl, hTk⟩ := hrel
        have HTk := Aside0.mk hTk
        clear hTk
        by_cases hk6 : k < 6
        · have t2 : decide ((k : Int) < 6) = true := decide_eq_true (by omega)
          have hk6i : (k : Int) < 6 := by omega
          have HK6 := Aside0.mk hk6
          obtain ⟨wo2, hwo⟩ : ∃ wo : World, wo = wr := ⟨_, rfl⟩
          rw [← hwo] at HTk ⊢
          clear hwo
          go_wp2_with fail
          go_loopw [7] (fun v wr => ∃ a : Nat, a ≤ 6 ∧ v = .int .i64 a ∧ TabAt w wr g (g + 1) (mix up k (a * 6))) (fun v _ => 6 - (intOf v).toNat)
          case atStart => exact ⟨0, by omega, rfl, HTk.out.congr fun x y _ _ => (mix_zero up k x y).symm⟩
          case round =>
            obtain ⟨a, ha, rfl, hTa⟩ := hrel
            have HTa := Aside0.mk hTa
            clear hTa
            by_cases ha6 : a < 6
            · have t3 : decide ((a : Int) < 6) = true := decide_eq_true (by omega)
              have ha6i : (a : Int) < 6 := by omega
              have HA6 := Aside0.mk ha6
              obtain ⟨wo3, hwo⟩ : ∃ wo : World, wo = wr := ⟨_, rfl⟩
              rw [← hwo] at HTa ⊢
              clear hwo
              go_wp2_with fail
              go_loopw [8] (fun v wr => ∃ b : Nat, b ≤ 6 ∧ v = .int .i64 b ∧ TabAt w wr g (g + 1) (mix up k (a * 6 + b))) (fun v _ => 6 - (intOf v).toNat)
              case atStart => exact ⟨0, by omega, rfl, HTa.out⟩
              case round =>
                obtain ⟨b, hb, rfl, hTb⟩ := hrel
                have HTb := Aside0.mk hTb
                by_cases hb6 : b < 6
                · have t4 : decide ((b : Int) < 6) = true := decide_eq_true (by omega)
                  have hb6i : (b : Int) < 6 := by omega
                  have HB6 := Aside0.mk hb6
                  have c1 := hTb.cell a b ha6 hb6
                  have c2 := hTb.cell a k ha6 hk6
                  have c3 := hTb.cell k b hk6 hb6
                  have f1 := hTb.frozen (a * 6 + b)
                  rw [mix_here] at c1
                  rw [mix_col] at c2
                  rw [mix_row] at c3
                  obtain ⟨v1, hv1⟩ : ∃ v, tab up k a b = v := ⟨_, rfl⟩
                  obtain ⟨v2, hv2⟩ : ∃ v, tab up k a k = v := ⟨_, rfl⟩
                  obtain ⟨v3, hv3⟩ : ∃ v, tab up k k b = v := ⟨_, rfl⟩
                  have HP := Aside0.mk ((hTb.drew.put a b (v1 || (v2 && v3)) ha6 hb6).congr fun x y hx hy => by rw [← hv1, ← hv2, ← hv3, mix_step up k a b ha6 hb6 x y hx hy])
                  rw [hv1] at c1
                  rw [hv2] at c2
                  rw [hv3] at c3
                  clear hTb hv1 hv2 hv3
                  go_wp2_with fail
                  cases v1 with
                  | true =>
                    refine wp_region_still_tail 23 (by kernel_rfl) (by kernel_rfl) ?_
                    simp only [List.take_succ_cons, List.take_zero, List.drop_succ_cons, List.drop_zero]
                    iterate 8 (with_reducible refine still_want (by kernel_rfl) ?_; intro K hK; go_simp; refine hK _ ?_; clear hK K)
                    iterate 12 (with_reducible refine still_skip (by kernel_rfl) ?_; intro K hK; go_simp; refine hK _ ?_; clear hK K)
                    iterate 3 (with_reducible refine still_want (by kernel_rfl) ?_; intro K hK; go_simp; refine hK _ ?_; clear hK K)
                    refine wpStill_nil ?_
                    go_wp2_with fail
                    go_roundw
                    case rel => exact ⟨b + 1, by omega, by go_num, HP.out⟩
                    case measure => simp [intOf]; omega
                  | false =>
                    cases v2 with
                    | false =>
                      refine wp_region_still_tail 23 (by kernel_rfl) (by kernel_rfl) ?_
                      simp only [List.take_succ_cons, List.take_zero, List.drop_succ_cons, List.drop_zero]
                      iterate 14 (with_reducible refine still_want (by kernel_rfl) ?_; intro K hK; go_simp; refine hK _ ?_; clear hK K)
                      iterate 5 (with_reducible refine still_skip (by kernel_rfl) ?_; intro K hK; go_simp; refine hK _ ?_; clear hK K)
                      iterate 4 (with_reducible refine still_want (by kernel_rfl) ?_; intro K hK; go_simp; refine hK _ ?_; clear hK K)
                      refine wpStill_nil ?_
                      go_wp2_with fail
                      go_roundw
                      case rel => exact ⟨b + 1, by omega, by go_num, HP.out⟩
                      case measure => simp [intOf]; omega
                    | true =>
                      refine wp_region_still_tail 23 (by kernel_rfl) (by kernel_rfl) ?_
                      simp only [List.take_succ_cons, List.take_zero, List.drop_succ_cons, List.drop_zero]
                      iterate 23 (with_reducible refine still_want (by kernel_rfl) ?_; intro K hK; go_simp; refine hK _ ?_; clear hK K)
                      refine wpStill_nil ?_
                      go_wp2_with fail
                      go_roundw
                      case rel => exact ⟨b + 1, by omega, by go_num, HP.out⟩
                      case measure => simp [intOf]; omega
                · have t4 : decide ((b : Int) < 6) = false := decide_eq_false (by omega)
                  have hb : b = 6 := by omega
                  subst hb
                  clear hTb
                  go_wp2_with fail
                  go_roundw
                  case rel => exact ⟨a + 1, by omega, by go_num, HTb.out.congr fun x y _ _ => by rw [show a * 6 + 6 = (a + 1) * 6 by omega]⟩
                  case measure => simp [intOf]; omega
            · have t3 : decide ((a : Int) < 6) = false := decide_eq_false (by omega)
              have ha : a = 6 := by omega
              subst ha
              go_wp2_with fail
              go_roundw
              case rel => exact ⟨k + 1, by omega, by go_num, HTa.out.congr fun x y hx hy => mix_all up k x y hx hy⟩
              case measure => simp [intOf]; omega
        · have t2 : decide ((k : Int) < 6) = false := decide_eq_false (by omega)
          have hk : k = 6 := by omega
          subst hk
          have hTk := HTk.out
          go_wp2_with (first | (with_reducible refine wpList_load_row rfl 113 _ rfl (g + 1) rfl 113 (arr (tab up 6)) (0, 0) _ hTk.hT Tryd.underlying113 rfl (by rw [(zero_of_info infoT).2, arr_size]) ?_) | (with_reducible refine wpList_store_row rfl 113 _ _ rfl g (arr (tab up 6)) rfl rfl 113 (arr noT) hTk.hR (by rw [(zero_of_info infoT).2, arr_size]) (by rw [arr_size, arr_size]) (by simp [arr, Value.oneCell']) ?_))
          refine bodyPost_ret (v := .agg (arr (tab up 6))) (results_cell_row rfl _ _ g 113 (arr (tab up 6)) (0, 0) _ rfl (setRow_heap _ _ _ _ _ _ hTk.hR) Tryd.underlying113 rfl (by rw [(zero_of_info infoT).2, arr_size])) rfl ⟨rfl, ?_⟩
          rw [hgz.out]
          exact ⟨hTk.B.os, hTk.B.tape, hTk.B.output, by simpa [World.setRow] using hTk.B.size, fun i hi => (setRow_other _ _ _ _ (by have := hgz.out; omega)).trans (hTk.B.block i (by have := hgz.out; omega))⟩
end Go.Proofs.YtnnfcdffnckoiaaDoor.Graph
