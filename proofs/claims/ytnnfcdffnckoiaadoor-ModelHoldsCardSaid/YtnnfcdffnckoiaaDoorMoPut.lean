/- The program's model: puts. -/
import Derived.Test.YtnnfcdffnckoiaaDoorMoTake
import Derived.Test.YtnnfcdffnckoiaaDoorMoRows
set_option linter.unusedVariables false
set_option linter.unusedSimpArgs false
set_option maxRecDepth 100000
namespace Go.Proofs.YtnnfcdffnckoiaaDoor.Mo
open Go.RowKit Go.Proofs.YtnnfcdffnckoiaaDoorW.PrintWords Go.Proofs.YtnnfcdffnckoiaaDoorW.PrintLast Go.Proofs.YtnnfcdffnckoiaaDoorW.PrintMore
def fillT (l : List Bool) (a : Nat) : Nat → List Bool
  | 0 => l
  | i + 1 => (fillT l a i).set (a + i) true
def fillD (l : List Int) (a : Nat) (xs : List Int) : Nat → List Int
  | 0 => l
  | i + 1 => (fillD l a xs i).set (a + i) (xs.getD i 0)
theorem setR_snoc {α : Type} (l : List α) (a : Nat) (xs : List α) (x : α) (h : a + xs.length < l.length) : setR l a (xs ++ [x]) = (setR l a xs).set (a + xs.length) x := by
  unfold setR
  have h1 : (l.take a ++ xs).length = a + xs.length := by simp; omega
  rw [List.set_append_right _ _ (by omega), h1, Nat.sub_self, List.drop_eq_getElem_cons h]
  simp [List.append_assoc, Nat.add_assoc]
theorem fillD_eq (l : List Int) (a : Nat) (xs : List Int) : ∀ n, n ≤ xs.length → a + n ≤ l.length → fillD l a xs n = setR l a (xs.take n)
  | 0, _, _ => by simp [fillD, setR]
  | n + 1, h, h2 => by
    rw [fillD, fillD_eq l a xs n (by omega) (by omega), List.take_succ_eq_append_getElem (by omega), setR_snoc _ _ _ _ (by simp; omega)]
    congr 1
    · simp; omega
    · simp [List.getD_eq_getElem?_getD, show n < xs.length by omega]
theorem fillT_eq (l : List Bool) (a : Nat) : ∀ n, a + n ≤ l.length → fillT l a n = setR l a (List.replicate n true)
  | 0, _ => by simp [fillT, setR]
  | n + 1, h2 => by
    rw [fillT, fillT_eq l a n (by omega), List.replicate_succ', setR_snoc _ _ _ _ (by simp; omega)]
    congr 1
    simp
theorem fillT_len (l : List Bool) (a : Nat) : ∀ n, (fillT l a n).length = l.length
  | 0 => rfl
  | n + 1 => by rw [fillT, List.length_set, fillT_len l a n]
theorem fillD_len (l : List Int) (a : Nat) (xs : List Int) : ∀ n, (fillD l a xs n).length = l.length
  | 0 => rfl
  | n + 1 => by rw [fillD, List.length_set, fillD_len l a xs n]
/-- An element is written. -/
theorem WS.cellP {w0 w W : World} {B : Nat} {k0 k : Mk} {cx : Cx} {st : St} {e : Ev} {Bd : Option Addr} {c : Nat} (h : WS w0 w W B k0 k cx st e Bd c) {q : Nat} (eq : k.P = some ⟨q, 0, none⟩) (j : Nat) (v : Bool) :
    WS w0 w (W.setCell ⟨q, j, none⟩ (.bool v)) B k0 k cx { st with put := st.put.set j v } e Bd c := by
  have hx := h.x.p
  rw [eq] at hx
  have hp := Kd.R_putg hx (j : Int) v
  rw [Int.toNat_natCast] at hp
  have hown : (Value.slice k.P k.pn k.pc).ownBlock = some q := by rw [eq]; rfl
  have hu := MX.updP h.x hp.1 (by rw [hown]; exact hp.2) (.inl (by rw [hown]; rfl))
  have e2 : ({ k with P := some ⟨q, 0, none⟩, pn := k.pn, pc := k.pc } : Mk) = k := by rw [← eq]
  rw [e2] at hu
  have hne := Kd.R_ne h.x.p h.b (by decide)
  have hne2 := Kd.R_ne h.x.p h.y (by decide)
  rw [hown] at hne hne2
  exact ⟨hu.1, h.t.set (Kd.R_base h.x.p q hown) (h.n q (own_P hown)) _ _, blk_far h.b (p := ⟨q, j, none⟩) (fun e => hne (by rw [e])) _, blk_far h.y (p := ⟨q, j, none⟩) (fun e => hne2 (by rw [e])) _, h.n⟩
theorem WS.formP {w0 w W : World} {B : Nat} {k0 k : Mk} {cx : Cx} {st : St} {e : Ev} {Bd : Option Addr} {c : Nat} (h : WS w0 w W B k0 k cx st e Bd c) (hp : 0 < st.put.length) : ∃ q, k.P = some ⟨q, 0, none⟩ ∧ k.pn = st.put.length := by
  obtain ⟨q, cap, hv, _⟩ := Kd.R_form h.x.p hp
  injection hv with hA hn hc
  exact ⟨q, hA, hn⟩
theorem WS.atP {w0 w W : World} {B : Nat} {k0 k : Mk} {cx : Cx} {st : St} {e : Ev} {Bd : Option Addr} {c : Nat} (h : WS w0 w W B k0 k cx st e Bd c) {q : Nat} (eq : k.P = some ⟨q, 0, none⟩) (j : Nat) (hj : j < st.put.length) : W.cell? ⟨q, j, none⟩ = some (.bool (st.put.getD j false)) ∧ W.frozen? ⟨q, j, none⟩ = false := by
  have hx := h.x.p
  have hn : k.pn = st.put.length := (Kd.R_reads' h.x.p).1
  rw [eq] at hx
  have h3 := Kd.R_celln false hx (j : Int) (by omega) (by rw [hn]; omega)
  rw [Int.toNat_natCast] at h3
  refine ⟨?_, h3.2⟩
  rw [h3.1]
  simp [rdOf]
/-- An element is written. -/
theorem WS.cellD {w0 w W : World} {B : Nat} {k0 k : Mk} {cx : Cx} {st : St} {e : Ev} {Bd : Option Addr} {c : Nat} (h : WS w0 w W B k0 k cx st e Bd c) {q : Nat} (eq : k.D = some ⟨q, 0, none⟩) (j : Nat) (v : Int) :
    WS w0 w (W.setCell ⟨q, j, none⟩ (.int .i64 v)) B k0 k cx { st with data := st.data.set j v } e Bd c := by
  have hx := h.x.d
  rw [eq] at hx
  have hp := Kd.R_putg hx (j : Int) v
  rw [Int.toNat_natCast] at hp
  have hown : (Value.slice k.D k.dn k.dc).ownBlock = some q := by rw [eq]; rfl
  have hu := MX.updD h.x hp.1 (by rw [hown]; exact hp.2) (.inl (by rw [hown]; rfl))
  have e2 : ({ k with D := some ⟨q, 0, none⟩, dn := k.dn, dc := k.dc } : Mk) = k := by rw [← eq]
  rw [e2] at hu
  have hne := Kd.R_ne h.x.d h.b (by decide)
  have hne2 := Kd.R_ne h.x.d h.y (by decide)
  rw [hown] at hne hne2
  exact ⟨hu.1, h.t.set (Kd.R_base h.x.d q hown) (h.n q (own_D hown)) _ _, blk_far h.b (p := ⟨q, j, none⟩) (fun e => hne (by rw [e])) _, blk_far h.y (p := ⟨q, j, none⟩) (fun e => hne2 (by rw [e])) _, h.n⟩
theorem WS.formD {w0 w W : World} {B : Nat} {k0 k : Mk} {cx : Cx} {st : St} {e : Ev} {Bd : Option Addr} {c : Nat} (h : WS w0 w W B k0 k cx st e Bd c) (hp : 0 < st.data.length) : ∃ q, k.D = some ⟨q, 0, none⟩ ∧ k.dn = st.data.length := by
  obtain ⟨q, cap, hv, _⟩ := Kd.R_form h.x.d hp
  injection hv with hA hn hc
  exact ⟨q, hA, hn⟩
theorem WS.atD {w0 w W : World} {B : Nat} {k0 k : Mk} {cx : Cx} {st : St} {e : Ev} {Bd : Option Addr} {c : Nat} (h : WS w0 w W B k0 k cx st e Bd c) {q : Nat} (eq : k.D = some ⟨q, 0, none⟩) (j : Nat) (hj : j < st.data.length) : W.cell? ⟨q, j, none⟩ = some (.int .i64 (st.data.getD j 0)) ∧ W.frozen? ⟨q, j, none⟩ = false := by
  have hx := h.x.d
  have hn : k.dn = st.data.length := (Kd.R_reads' h.x.d).1
  rw [eq] at hx
  have h3 := Kd.R_celln 0 hx (j : Int) (by omega) (by rw [hn]; omega)
  rw [Int.toNat_natCast] at h3
  refine ⟨?_, h3.2⟩
  rw [h3.1]
  simp [rdOf]
theorem WS.ev {w0 w W : World} {B : Nat} {k0 k : Mk} {cx : Cx} {st : St} {e : Ev} {Bd : Option Addr} {c : Nat} (h : WS w0 w W B k0 k cx st e Bd c) (hd : Kd.F (Kd.int .i64) w (fun q => ¬ Own k0 B q) Bd e.data.length e.data) (j : Nat) (hj : j < e.data.length) : ∃ ad, Bd = some ad ∧ W.cell? (ad.add j) = some (.int .i64 (e.data.getD j 0)) := by
  have hC := hd W (fun q hq hlt => h.t.p q hlt hq)
  obtain ⟨ad, ha, hx⟩ := num_at hC j hj
  exact ⟨ad, ha, by rw [hx]; simp [hj]⟩
def preAt (w : World) (B : Nat) : Nat := match w.cell? ⟨B, 10, none⟩ with
  | some v => (intOf v).toNat
  | none => 0
theorem preAt_of {w : World} {B p : Nat} (h : w.cell? ⟨B, 10, none⟩ = some (.int .i64 (p : Int))) : preAt w B = p := by
  unfold preAt
  rw [h]
  simp [intOf]
theorem hset_ {st : St} {t : Nat} {v : Hd} {P : List Bool} {D : List Int} {p : Int} (h : t < st.held.length) : held { st with put := P, data := D, pre := p, held := st.held.set t v } t = v := (held_set _ _ _ _ h).trans (if_pos rfl)
theorem bnd_ {j i aa n L : Nat} (h1 : aa + n ≤ L) (h2 : i < n) (hj : j = aa + i) : j < L := by omega
theorem idx_ {hf hp : Int} {aa i n j : Nat} (h : hf + hp = (aa : Int)) (hj : j = aa + i) (h1 : aa ≤ 100000) (h2 : i < n) (h3 : n ≤ 100000) : wrap64 (hf + hp + (i : Int)) = (j : Int) := by
  rw [w64 (by omega)]; omega
set_option maxHeartbeats 8000000 in
theorem pputs (w0 w : World) (h0 : Below w0.heap.size w0 w) (B : Nat) (k : Mk) (cx : Cx) (st : St) (h : MM w0.heap.size w B k cx st) (e : Ev) (Bd : Option Addr) (c : Nat) (ht : I64 e.thread) (hdf : Kd.F (Kd.int .i64) w (fun q => ¬ Own k B q) Bd e.data.length e.data) (hdl : e.data.length ≤ 100000) (hg : putsC cx st e = 0 → Good cx (putsS st e)) :
    Calls Tryd.prog 64 #[.pointer (some ⟨B, 0, none⟩), .agg #[.int .i64 e.kind, .int .i64 e.thread, .int .i64 e.op, .int .i64 e.n, .int .u64 e.pos, .int .i64 e.code, .slice Bd e.data.length c]] w fun r W => WPost w0 w B k cx st (putsC cx st e) (putsS st e) r W := by
  have H0 := Aside.mk h0
  have HM0 := Aside.mk h
  have HB := Aside.mk (below_alloc (Below.refl w.heap.size w) (.cells #[.int .i64 e.kind, .int .i64 e.thread, .int .i64 e.op, .int .i64 e.n, .int .u64 e.pos, .int .i64 e.code, .slice Bd e.data.length c] 44))
  have HY := Aside.mk (heap_alloc_new w (.cells #[.int .i64 e.kind, .int .i64 e.thread, .int .i64 e.op, .int .i64 e.n, .int .u64 e.pos, .int .i64 e.code, .slice Bd e.data.length c] 44))
  have HT := Aside.mk ht
  have HG := Aside.mk hg
  have HDF := Aside.mk hdf
  have HDL := Aside.mk hdl
  clear h0 h ht hg hdf hdl
  go_enter Tryd.func64, Tryd.ntmps64
  go_upto_region 1 with (fail)
  generalize w.alloc (.cells #[.int .i64 e.kind, .int .i64 e.thread, .int .i64 e.op, .int .i64 e.n, .int .u64 e.pos, .int .i64 e.code, .slice Bd e.data.length c] 44) = w2 at *
  obtain ⟨y0, y1, y2, y3, y4, y5, y6⟩ := cell7 HY.out
  go_wp2_with fail
  refine (pproducer _ B k cx st (HM0.out.r.below HB.out) e.thread).mono ?_
  rintro r w3 ⟨rfl, hb⟩
  replace HY := Aside.mk (blk_below HY.out hb)
  replace HB := Aside.mk (HB.out.trans (hb.mono HB.out.size))
  clear hb y0 y1 y2 y3 y4 y5 y6
  by_cases hc : ¬ (0 ≤ e.thread ∧ e.thread < (cx.prod : Int))
  · have HV := Aside.mk (show (decide (0 ≤ e.thread) && decide (e.thread < (cx.prod : Int))) = false by
      by_cases h0 : 0 ≤ e.thread
      · rw [decide_eq_false (show ¬ e.thread < (cx.prod : Int) from fun h => hc ⟨h0, h⟩), Bool.and_false]
      · rw [decide_eq_false h0, Bool.false_and])
    rw [HV.out]
    have HC := Aside.mk (show putsC cx st e = 11 from by unfold putsC; rw [if_pos hc])
    clear hc
    go_wp2
    go_ret
    exact ⟨by rw [HC.out]; rfl, by rw [HC.out, if_neg (by decide)]; exact .same HM0.out HB.out H0.out⟩
  have HV := Aside.mk (show (decide (0 ≤ e.thread) && decide (e.thread < (cx.prod : Int))) = true by
    rw [decide_eq_true (show 0 ≤ e.thread by omega), decide_eq_true (show e.thread < (cx.prod : Int) by omega)]; rfl)
  rw [HV.out]
  obtain ⟨t, hth⟩ : ∃ t : Nat, e.thread = (t : Int) := ⟨e.thread.toNat, by omega⟩
  have HTL := Aside.mk (show t < cx.prod by omega)
  have HC := Aside.mk (show putsC cx st e = if (held st t).g = false then 14 else if e.n < 1 ∨ e.n > (held st t).n - (held st t).p then 13 else if cx.cnt st.taken e.pos ≠ (held st t).f + (held st t).p then 18 else if (e.data.length : Int) ≠ e.n then 19 else 0 from by unfold putsC; rw [if_neg hc, hth, Int.toNat_natCast])
  have HTH := Aside.mk hth
  clear hc
  have HM := Aside.mk (HM0.out.below HB.out)
  obtain ⟨hq, eH, hH1, ⟨a0, a1, a2, a3⟩, hfr⟩ := HM.out.formH t HTL.out
  have HHF := Aside.mk hfr
  have HEH := Aside.mk eH
  clear hfr
  obtain ⟨c0, c1, c2, c3, c4, c5, c6, c7, c8, c9, c10, c11, c12, c13, c14, c15⟩ := cell16 HM.out.r.blk
  have HH1 := Aside.mk hH1
  clear hH1
  rw [eH, HM.out.r.hn] at c11
  clear c0 c1 c3 c4 c5 c6 c7 c9 c10 c12 c13 c14 c15 eH
  rw [HM.out.r.cp] at c2
  have i1 : decide ((t : Int) < (cx.prod : Int)) = true := decide_eq_true (by have := HTL.out; omega)
  have i2 : (t : Int) < (cx.prod : Int) := by have := HTL.out; omega
  have i3 : decide (t < cx.prod) = true := decide_eq_true HTL.out
  have i4 : t < cx.prod := HTL.out
  obtain ⟨y0, y1, y2, y3, y4, y5, y6⟩ := cell7 HY.out
  rw [hth] at y1
  have HHL := Aside.mk (show t < st.held.length by rw [HM.out.r.wf.lh]; exact HTL.out)
  have HBD := Aside.mk (show held st t = hz ∨ (0 ≤ (held st t).f ∧ 1 ≤ (held st t).n ∧ (held st t).f + (held st t).n ≤ st.taken ∧ 0 ≤ (held st t).p ∧ (held st t).p < (held st t).n) from by
    rcases HM.out.r.wf.hw t HTL.out with h3 | ⟨h3, _, h4, h5, h6, h7, _⟩
    · exact .inl h3
    · exact .inr ⟨h4, h3, h5, h6, h7⟩)
  have HPS := Aside.mk (show putsS st e = { st with put := setR st.put ((held st t).f + (held st t).p).toNat (List.replicate e.n.toNat true), data := setR st.data ((held st t).f + (held st t).p).toNat e.data, pre := (run (setR st.put ((held st t).f + (held st t).p).toNat (List.replicate e.n.toNat true)) : Int), held := st.held.set t (afterPut (held st t) e.n) } from by unfold putsS putAt; rw [HTH.out, Int.toNat_natCast])
  generalize hhh : held st t = h at *
  have HHH := Aside.mk hhh
  clear hhh hth
  obtain ⟨hf, hn', hp, hg⟩ := h
  simp only at a0 a1 a2 a3 HC HBD HPS
  go_wp2_with fail
  clear c2 c8
  refine start_ (n := 8) (S := fun w' => w'.cell? ⟨B, 11, none⟩ = some (.slice (some ⟨hq, 0, none⟩) cx.prod k.hc) ∧ w'.cell? ⟨w.heap.size, 1, none⟩ = some (.int .i64 t) ∧ True) (ds := []) #[false, false, false, false, false, false, false, false] (by kernel_rfl) rfl rfl ⟨c11, y1, trivial⟩ (fun hHeld => ?_)
  replace HB := Aside.mk (below_drew1 HB.out)
  replace HM := Aside.mk (HM.out.below (below_drew1 (Below.refl _ _)))
  replace HY := Aside.mk (blk_drew HY.out)
  clear y0 y1 y2 y3 y4 y5 y6 c11 a0 a1 a2 a3 HHF
  generalize w3.drew = w4 at *
  refine pure_ (i := 0) (N := some 12) (v := ?_) (a' := ?_) #[true, false, false, false, false, false, false, false] rfl rfl (by kernel_rfl) (fun _ _ _ h => h) (Or.inl ⟨by rfl, ?_⟩) ?_ ?_
  rotate_left
  · intro w'
    go_simp
    with_reducible rfl
  rotate_left
  · simp only [Act.put, List.setIfInBounds_toArray, List.set_cons_zero, List.set_cons_succ, i64_w, i32_w]
    rfl
  refine pure_ (i := 1) (N := some 13) (v := ?_) (a' := ?_) #[true, true, false, false, false, false, false, false] rfl rfl (by kernel_rfl) (fun _ _ _ h => h) (Or.inl ⟨by rfl, ?_⟩) ?_ ?_
  rotate_left
  · intro w'
    go_simp
    with_reducible rfl
  rotate_left
  · simp only [Act.put, List.setIfInBounds_toArray, List.set_cons_zero, List.set_cons_succ, i64_w, i32_w]
    rfl
  refine pure_ (i := 2) (N := some 14) (v := ?_) (a' := ?_) #[true, true, true, false, false, false, false, false] rfl rfl (by kernel_rfl) (fun _ _ _ h => h) (Or.inl ⟨by rfl, ?_⟩) ?_ ?_
  rotate_left
  · intro w'
    go_simp
    with_reducible rfl
  rotate_left
  · simp only [Act.put, List.setIfInBounds_toArray, List.set_cons_zero, List.set_cons_succ, i64_w, i32_w]
    rfl
  refine take_ (i := 3) (N := some 15) (v := ?_) (a' := ?_) #[true, true, true, true, false, false, false, false] rfl rfl (by kernel_rfl) (fun _ _ _ h => h) (Or.inl ⟨by rfl, ?_⟩) hHeld ?_ ?_
  rotate_left
  · rintro w' ⟨s0, s1, s2⟩
    go_simp
    with_reducible rfl
  rotate_left
  · simp only [Act.put, List.setIfInBounds_toArray, List.set_cons_zero, List.set_cons_succ, i64_w, i32_w]
    rfl
  refine pure_ (i := 4) (N := some 16) (v := ?_) (a' := ?_) #[true, true, true, true, true, false, false, false] rfl rfl (by kernel_rfl) (fun _ _ _ h => h) (Or.inl ⟨by rfl, ?_⟩) ?_ ?_
  rotate_left
  · intro w'
    go_simp
    with_reducible rfl
  rotate_left
  · simp only [Act.put, List.setIfInBounds_toArray, List.set_cons_zero, List.set_cons_succ, i64_w, i32_w]
    rfl
  refine take_ (i := 5) (N := some 17) (v := ?_) (a' := ?_) #[true, true, true, true, true, true, false, false] rfl rfl (by kernel_rfl) (fun _ _ _ h => h) (Or.inl ⟨by rfl, ?_⟩) hHeld ?_ ?_
  rotate_left
  · rintro w' ⟨s0, s1, s2⟩
    go_simp
    with_reducible rfl
  rotate_left
  · simp only [Act.put, List.setIfInBounds_toArray, List.set_cons_zero, List.set_cons_succ, i64_w, i32_w]
    rfl
  refine pure_ (i := 6) (N := some 18) (v := ?_) (a' := ?_) #[true, true, true, true, true, true, true, false] rfl rfl (by kernel_rfl) (fun _ _ _ h => h) (Or.inl ⟨by rfl, ?_⟩) ?_ ?_
  rotate_left
  · intro w'
    go_simp
    with_reducible rfl
  rotate_left
  · simp only [Act.put, List.setIfInBounds_toArray, List.set_cons_zero, List.set_cons_succ, i64_w, i32_w]
    rfl
  refine pure_ (i := 7) (N := some 5) (v := ?_) (a' := ?_) #[true, true, true, true, true, true, true, true] rfl rfl (by kernel_rfl) (fun _ _ _ h => h) (Or.inl ⟨by rfl, ?_⟩) ?_ ?_
  rotate_left
  · intro w'
    go_simp
    with_reducible rfl
  rotate_left
  · simp only [Act.put, List.setIfInBounds_toArray, List.set_cons_zero, List.set_cons_succ, i64_w, i32_w]
    rfl
  refine done_ (by kernel_rfl) ?_
  obtain ⟨hq2, eH2, hH12, ⟨a0, a1, a2, a3⟩, hfr⟩ := HM.out.formH t HTL.out
  rw [HEH.out] at eH2
  injection eH2 with eH2
  injection eH2 with eH2
  subst eH2
  rw [HHH.out] at a0 a1 a2 a3
  simp only at a0 a1 a2 a3
  have HHF := Aside.mk hfr
  clear hfr hH12
  cases hg with
  | false =>
    rw [if_pos rfl] at HC
    go_wp2
    go_ret
    exact ⟨by rw [HC.out]; rfl, by rw [HC.out, if_neg (by decide)]; exact .same HM0.out HB.out H0.out⟩
  | true =>
    rw [if_neg (by simp)] at HC
    have HBE := Aside.mk (show 0 ≤ hf ∧ 1 ≤ hn' ∧ hf + hn' ≤ st.taken ∧ st.taken ≤ 100000 ∧ 0 ≤ hp ∧ hp < hn' from by
      rcases HBD.out with h3 | ⟨h3, h4, h5, h6, h7⟩
      · unfold hz at h3; injection h3 with _ _ _ h3; cases h3
      · exact ⟨h3, h4, h5, HM.out.r.tb, h6, h7⟩)
    clear HBD
    obtain ⟨y0, y1, y2, y3, y4, y5, y6⟩ := cell7 HY.out
    have ew1 := w64 (show -4611686018427387904 ≤ hn' - hp ∧ hn' - hp ≤ 4611686018427387904 by have := HBE.out; omega)
    by_cases h1 : e.n < 1
    · have t1 : decide (e.n < 1) = true := decide_eq_true h1
      rw [if_pos (.inl h1)] at HC
      clear h1
      go_wp2_with fail
      go_region
      all_goals
        replace HB := Aside.mk (below_drew1 HB.out)
        go_wp2
        go_ret
        exact ⟨by rw [HC.out]; rfl, by rw [HC.out, if_neg (by decide)]; exact .same HM0.out HB.out H0.out⟩
    have t1 : decide (e.n < 1) = false := decide_eq_false h1
    by_cases h2 : hn' - hp < e.n
    · have t2 : decide (hn' - hp < e.n) = true := decide_eq_true h2
      rw [if_pos (.inr h2)] at HC
      clear h1 h2
      go_wp2_with fail
      go_region
      all_goals
        replace HB := Aside.mk (below_drew1 HB.out)
        go_wp2
        go_ret
        exact ⟨by rw [HC.out]; rfl, by rw [HC.out, if_neg (by decide)]; exact .same HM0.out HB.out H0.out⟩
    have t2 : decide (hn' - hp < e.n) = false := decide_eq_false h2
    rw [if_neg (by omega)] at HC
    have HNN := Aside.mk (show 1 ≤ e.n ∧ e.n ≤ hn' - hp by omega)
    clear h1 h2
    go_wp2_with fail
    go_region
    all_goals
      clear t1 t2 ew1
      replace HB := Aside.mk (below_drew1 HB.out)
      replace HM := Aside.mk (HM.out.below (below_drew1 (Below.refl _ _)))
      replace HY := Aside.mk (blk_drew HY.out)
      clear y0 y1 y2 y3 y4 y5 y6 a0 a1 a2 a3 HHF
      generalize w4.drew = w5 at *
      obtain ⟨hq2, eH2, hH12, ⟨a0, a1, a2, a3⟩, hfr⟩ := HM.out.formH t HTL.out
      rw [HEH.out] at eH2
      injection eH2 with eH2
      injection eH2 with eH2
      subst eH2
      rw [HHH.out] at a0 a1 a2 a3
      simp only at a0 a1 a2 a3
      have HHF := Aside.mk hfr
      clear hfr hH12
      go_wp2_with fail
      refine start_ (n := 15) (S := fun w' => w'.cell? ⟨w.heap.size, 4, none⟩ = some (.int .u64 e.pos) ∧ w'.cell? ⟨hq, t * 4, none⟩ = some (.int .i64 hf) ∧ w'.cell? ⟨hq, t * 4 + 2, none⟩ = some (.int .i64 hp) ∧ True) (ds := []) #[false, false, false, false, false, false, false, false, false, false, false, false, false, false, false] (by kernel_rfl) rfl rfl ⟨(blk_cell (blk_drew HY.out) 4).trans rfl, a0, a2, trivial⟩ (fun hHeld => ?_)
      replace HB := Aside.mk (below_drew1 HB.out)
      replace HM := Aside.mk (HM.out.below (below_drew1 (Below.refl _ _)))
      replace HY := Aside.mk (blk_drew HY.out)
      clear a0 a1 a2 a3 HHF
      generalize w5.drew = w6 at *
      have ew := w64 (show -4611686018427387904 ≤ hf + hp ∧ hf + hp ≤ 4611686018427387904 by have := HBE.out; omega)
      refine pure_ (i := 0) (N := some 44) (v := ?_) (a' := ?_) #[true, false, false, false, false, false, false, false, false, false, false, false, false, false, false] rfl rfl (by kernel_rfl) (fun _ _ _ h => h) (Or.inl ⟨by rfl, ?_⟩) ?_ ?_
      rotate_left
      · intro w'
        go_simp
        with_reducible rfl
      rotate_left
      · simp only [Act.put, List.setIfInBounds_toArray, List.set_cons_zero, List.set_cons_succ, i64_w, i32_w]
        rfl
      refine pure_ (i := 1) (N := some 45) (v := ?_) (a' := ?_) #[true, true, false, false, false, false, false, false, false, false, false, false, false, false, false] rfl rfl (by kernel_rfl) (fun _ _ _ h => h) (Or.inl ⟨by rfl, ?_⟩) ?_ ?_
      rotate_left
      · intro w'
        go_simp
        with_reducible rfl
      rotate_left
      · simp only [Act.put, List.setIfInBounds_toArray, List.set_cons_zero, List.set_cons_succ, i64_w, i32_w]
        rfl
      refine take_ (i := 2) (N := some 46) (v := ?_) (a' := ?_) #[true, true, true, false, false, false, false, false, false, false, false, false, false, false, false] rfl rfl (by kernel_rfl) (fun _ _ _ h => h) (Or.inl ⟨by rfl, ?_⟩) hHeld ?_ ?_
      rotate_left
      · rintro w' ⟨s0, s1, s2, s3⟩
        go_simp
        with_reducible rfl
      rotate_left
      · simp only [Act.put, List.setIfInBounds_toArray, List.set_cons_zero, List.set_cons_succ, i64_w, i32_w]
        rfl
      refine pure_ (i := 4) (N := some 48) (v := ?_) (a' := ?_) #[true, true, true, false, true, false, false, false, false, false, false, false, false, false, false] rfl rfl (by kernel_rfl) (fun _ _ _ h => h) (Or.inl ⟨by rfl, ?_⟩) ?_ ?_
      rotate_left
      · intro w'
        go_simp
        with_reducible rfl
      rotate_left
      · simp only [Act.put, List.setIfInBounds_toArray, List.set_cons_zero, List.set_cons_succ, i64_w, i32_w]
        rfl
      refine pure_ (i := 5) (N := some 49) (v := ?_) (a' := ?_) #[true, true, true, false, true, true, false, false, false, false, false, false, false, false, false] rfl rfl (by kernel_rfl) (fun _ _ _ h => h) (Or.inl ⟨by rfl, ?_⟩) ?_ ?_
      rotate_left
      · intro w'
        go_simp
        with_reducible rfl
      rotate_left
      · simp only [Act.put, List.setIfInBounds_toArray, List.set_cons_zero, List.set_cons_succ, i64_w, i32_w]
        rfl
      refine pure_ (i := 6) (N := some 50) (v := ?_) (a' := ?_) #[true, true, true, false, true, true, true, false, false, false, false, false, false, false, false] rfl rfl (by kernel_rfl) (fun _ _ _ h => h) (Or.inl ⟨by rfl, ?_⟩) ?_ ?_
      rotate_left
      · intro w'
        go_simp
        with_reducible rfl
      rotate_left
      · simp only [Act.put, List.setIfInBounds_toArray, List.set_cons_zero, List.set_cons_succ, i64_w, i32_w]
        rfl
      refine take_ (i := 7) (N := some 51) (v := ?_) (a' := ?_) #[true, true, true, false, true, true, true, true, false, false, false, false, false, false, false] rfl rfl (by kernel_rfl) (fun _ _ _ h => h) (Or.inl ⟨by rfl, ?_⟩) hHeld ?_ ?_
      rotate_left
      · rintro w' ⟨s0, s1, s2, s3⟩
        go_simp
        with_reducible rfl
      rotate_left
      · simp only [Act.put, List.setIfInBounds_toArray, List.set_cons_zero, List.set_cons_succ, i64_w, i32_w]
        rfl
      refine pure_ (i := 8) (N := some 52) (v := ?_) (a' := ?_) #[true, true, true, false, true, true, true, true, true, false, false, false, false, false, false] rfl rfl (by kernel_rfl) (fun _ _ _ h => h) (Or.inl ⟨by rfl, ?_⟩) ?_ ?_
      rotate_left
      · intro w'
        go_simp
        with_reducible rfl
      rotate_left
      · simp only [Act.put, List.setIfInBounds_toArray, List.set_cons_zero, List.set_cons_succ, i64_w, i32_w]
        rfl
      refine pure_ (i := 9) (N := some 53) (v := ?_) (a' := ?_) #[true, true, true, false, true, true, true, true, true, true, false, false, false, false, false] rfl rfl (by kernel_rfl) (fun _ _ _ h => h) (Or.inl ⟨by rfl, ?_⟩) ?_ ?_
      rotate_left
      · intro w'
        go_simp
        with_reducible rfl
      rotate_left
      · simp only [Act.put, List.setIfInBounds_toArray, List.set_cons_zero, List.set_cons_succ, i64_w, i32_w]
        rfl
      refine pure_ (i := 10) (N := some 54) (v := ?_) (a' := ?_) #[true, true, true, false, true, true, true, true, true, true, true, false, false, false, false] rfl rfl (by kernel_rfl) (fun _ _ _ h => h) (Or.inl ⟨by rfl, ?_⟩) ?_ ?_
      rotate_left
      · intro w'
        go_simp
        with_reducible rfl
      rotate_left
      · simp only [Act.put, List.setIfInBounds_toArray, List.set_cons_zero, List.set_cons_succ, i64_w, i32_w]
        rfl
      refine take_ (i := 11) (N := some 55) (v := ?_) (a' := ?_) #[true, true, true, false, true, true, true, true, true, true, true, true, false, false, false] rfl rfl (by kernel_rfl) (fun _ _ _ h => h) (Or.inl ⟨by rfl, ?_⟩) hHeld ?_ ?_
      rotate_left
      · rintro w' ⟨s0, s1, s2, s3⟩
        go_simp
        with_reducible rfl
      rotate_left
      · simp only [Act.put, List.setIfInBounds_toArray, List.set_cons_zero, List.set_cons_succ, i64_w, i32_w]
        rfl
      refine pure_ (i := 12) (N := some 56) (v := ?_) (a' := ?_) #[true, true, true, false, true, true, true, true, true, true, true, true, true, false, false] rfl rfl (by kernel_rfl) (fun _ _ _ h => h) (Or.inl ⟨by rfl, ?_⟩) ?_ ?_
      rotate_left
      · intro w'
        go_simp
        with_reducible rfl
      rotate_left
      · simp only [Act.put, List.setIfInBounds_toArray, List.set_cons_zero, List.set_cons_succ, i64_w, i32_w]
        rfl
      refine one_ (i := 3) (N := some 47) #[true, true, true, true, true, true, true, true, true, true, true, true, true, false, false] rfl rfl (by kernel_rfl) (by decide) (fun K hK => ?_)
      refine goes_ Tryd.func37 (by kernel_rfl) rfl #[.pointer (some ⟨B, 0, none⟩), .int .u64 e.pos] (by rfl) rfl rfl (by (try simp only [List.map_toArray, List.map_cons, List.map_nil]); first | done | rfl) ?_
      with_reducible refine (pcount _ B k cx st HM.out.r e.pos).mono ?_
      rintro q w7 ⟨rfl, hb⟩
      refine ⟨_, rfl, ?_⟩
      replace HB := Aside.mk (HB.out.trans (hb.mono HB.out.size))
      replace HM := Aside.mk (HM.out.below hb)
      replace HY := Aside.mk (blk_below HY.out hb)
      clear hb
      obtain ⟨hq2, eH2, hH12, ⟨a0, a1, a2, a3⟩, hfr⟩ := HM.out.formH t HTL.out
      rw [HEH.out] at eH2
      injection eH2 with eH2
      injection eH2 with eH2
      subst eH2
      rw [HHH.out] at a0 a1 a2 a3
      simp only at a0 a1 a2 a3
      have HHF := Aside.mk hfr
      clear hfr hH12
      refine hK.out _ _ ⟨(blk_cell HY.out 4).trans rfl, a0, a2, trivial⟩ (fun hHeld => ?_)
      clear hK K
      refine norm_ (a' := ?_) ?_ ?_
      rotate_left
      · show Act.put _ (some 47) _ = _
        simp only [Act.put, List.setIfInBounds_toArray, List.set_cons_zero, List.set_cons_succ, i64_w, i32_w]
        rfl
      refine pure_ (i := 13) (N := some 57) (v := ?_) (a' := ?_) #[true, true, true, true, true, true, true, true, true, true, true, true, true, true, false] rfl rfl (by kernel_rfl) (fun _ _ _ h => h) (Or.inl ⟨by rfl, ?_⟩) ?_ ?_
      rotate_left
      · intro w'
        go_simp
        with_reducible rfl
      rotate_left
      · simp only [Act.put, List.setIfInBounds_toArray, List.set_cons_zero, List.set_cons_succ, i64_w, i32_w]
        rfl
      refine pure_ (i := 14) (N := some 43) (v := ?_) (a' := ?_) #[true, true, true, true, true, true, true, true, true, true, true, true, true, true, true] rfl rfl (by kernel_rfl) (fun _ _ _ h => h) (Or.inl ⟨by rfl, ?_⟩) ?_ ?_
      rotate_left
      · intro w'
        go_simp
        with_reducible rfl
      rotate_left
      · simp only [Act.put, List.setIfInBounds_toArray, List.set_cons_zero, List.set_cons_succ, i64_w, i32_w]
        rfl
      refine done_ (by kernel_rfl) ?_
      generalize hnn : cx.cnt st.taken e.pos = n at *
      by_cases h3 : n = hf + hp
      rotate_left
      · have t3 : (n != hf + hp) = true := by simpa using h3
        rw [if_pos h3] at HC
        clear h3 hnn
        simp only [t3]
        go_wp2
        go_ret
        exact ⟨by rw [HC.out]; rfl, by rw [HC.out, if_neg (by decide)]; exact .same HM0.out HB.out H0.out⟩
      have t3 : (n != hf + hp) = false := by simpa using h3
      rw [if_neg (fun h => h h3)] at HC
      clear h3 hnn
      simp only [t3]
      clear t3
      obtain ⟨y0, y1, y2, y3, y4, y5, y6⟩ := cell7 HY.out
      by_cases h4 : (e.data.length : Int) = e.n
      rotate_left
      · have t4 : ((e.data.length : Int) != e.n) = true := by simpa using h4
        rw [if_pos h4] at HC
        clear h4
        go_wp2
        go_ret
        exact ⟨by rw [HC.out]; rfl, by rw [HC.out, if_neg (by decide)]; exact .same HM0.out HB.out H0.out⟩
      have t4 : ((e.data.length : Int) != e.n) = false := by simpa using h4
      rw [if_neg (fun h => h h4)] at HC
      have HEN := Aside.mk h4.symm
      clear h4
      have HGD := Aside.mk (HG.out HC.out)
      have HST := Aside.mk (And.intro HM.out.r.wf.lp (And.intro HM.out.r.wf.ld HM.out.r.wf.pf))
      obtain ⟨aa, haa⟩ : ∃ aa : Nat, hf + hp = (aa : Int) := ⟨(hf + hp).toNat, by have := HBE.out; omega⟩
      have HAA := Aside.mk haa
      have HAN := Aside.mk (show aa + e.data.length ≤ st.put.length ∧ aa + e.data.length ≤ st.data.length ∧ 1 ≤ e.data.length ∧ aa ≤ 100000 by have := HST.out; have := HBE.out; have := HNN.out; have := HEN.out; omega)
      clear haa
      have HW := Aside.mk (show WS w0 w w7 B k k cx { st with put := fillT st.put aa 0, data := fillD st.data aa e.data 0 } e Bd c from WS.of HM.out H0.out HB.out HY.out)
      obtain ⟨pq, hPQ, hPN⟩ := HW.out.formP (by show 0 < st.put.length; have := HAN.out; omega)
      obtain ⟨dq, hDQ, hDN⟩ := HW.out.formD (by show 0 < st.data.length; have := HAN.out; omega)
      have HPQ := Aside.mk (show k.P = some ⟨pq, 0, none⟩ ∧ k.pn = st.put.length from And.intro hPQ hPN)
      have HDQ := Aside.mk (show k.D = some ⟨dq, 0, none⟩ ∧ k.dn = st.data.length from And.intro hDQ hDN)
      clear hPQ hPN hDQ hDN
      rw [HEN.out] at y3
      go_wp2_with fail
      clear t4 y0 y1 y2 y3 y4 y5 y6 a0 a1 a2 a3 HHF HM HB HY hHeld
      go_loopw [67] (fun x wr => ∃ i : Nat, i ≤ e.data.length ∧ x = .int .i64 i ∧ WS w0 w wr B k k cx { st with put := fillT st.put aa i, data := fillD st.data aa e.data i } e Bd c) (fun x _ => e.data.length - (intOf x).toNat)
      case atStart => exact ⟨0, Nat.zero_le _, rfl, HW.out⟩
      case round =>
        obtain ⟨i, hi, rfl, hW⟩ := hrel
        clear HW
        have HW := Aside.mk hW
        clear hW
        by_cases hlt : i < e.data.length
        rotate_left
        · obtain rfl : i = e.data.length := by omega
          have t1 : decide ((e.data.length : Int) < (e.data.length : Int)) = false := decide_eq_false (by omega)
          have t2 : decide (e.data.length < e.data.length) = false := decide_eq_false (by omega)
          clear hi hlt
          have hst : ({ st with put := fillT st.put aa e.data.length, data := fillD st.data aa e.data e.data.length } : St) = { st with put := setR st.put aa (List.replicate e.data.length true), data := setR st.data aa e.data } := by rw [fillT_eq _ _ _ HAN.out.1, fillD_eq _ _ _ _ (Nat.le_refl _) HAN.out.2.1, List.take_length]
          have HW2 := HW.out
          rw [hst] at HW2
          clear HW hst
          have HPL := Aside.mk (show (setR st.put aa (List.replicate e.data.length true)).length = st.put.length from setR_len _ _ _ (by rw [List.length_replicate]; exact HAN.out.1))
          have HRG := Aside.mk (show run st.put ≤ run (setR st.put aa (List.replicate e.data.length true)) from run_ge _ _ (fun i hi => by
            by_cases hin : aa ≤ i ∧ i < aa + e.data.length
            · rw [setR_in _ _ _ (by rw [List.length_replicate]; exact HAN.out.1) _ _ hin.1 (by rw [List.length_replicate]; exact hin.2), List.getD_eq_getElem?_getD, List.getElem?_replicate, if_pos (by omega)]; rfl
            · rw [setR_out _ _ _ (by rw [List.length_replicate]; exact HAN.out.1) _ _ (by rw [List.length_replicate]; omega)]; exact run_before _ i hi))
          generalize hP' : setR st.put aa (List.replicate e.data.length true) = P' at *
          have HP' := Aside.mk hP'
          clear hP'
          generalize hD' : setR st.data aa e.data = D' at *
          have HD' := Aside.mk hD'
          clear hD'
          have HRL := Aside.mk (run_le P')
          have HTK := Aside.mk (show st.taken = ((P'.length : Nat) : Int) by rw [HPL.out]; exact HST.out.1.symm)
          go_wp2_with fail
          go_loopw [] (fun wr => ∃ p : Nat, p ≤ run P' ∧ WS w0 w wr B k k cx { st with put := P', data := D', pre := (p : Int) } e Bd c) (fun wr => P'.length - preAt wr B)
          case atStart => exact ⟨run st.put, HRG.out, by rw [← HST.out.2.2]; exact HW2⟩
          case round =>
            obtain ⟨p, hp1, hW⟩ := hrel
            have HW := Aside.mk hW
            clear hW HW2
            obtain ⟨c0, c1, c2, c3, c4, c5, c6, c7, c8, c9, c10, c11, c12, c13, c14, c15⟩ := cell16 HW.out.b
            rw [show ({ st with put := P', data := D', pre := (p : Int) } : St).taken = ((P'.length : Nat) : Int) from HTK.out] at c8
            rw [HPQ.out.1] at c12
            simp only at c10
            clear c0 c1 c2 c3 c4 c5 c6 c7 c9 c11 c13 c14 c15
            by_cases hr : p < run P'
            · have HR := Aside.mk hr
              have hlt : p < P'.length := Nat.lt_of_lt_of_le hr HRL.out
              obtain ⟨hat, _⟩ := HW.out.atP HPQ.out.1 p hlt
              rw [show ({ st with put := P', data := D', pre := (p : Int) } : St).put.getD p false = true from run_before P' p hr] at hat
              have t1 : decide ((p : Int) < (P'.length : Int)) = true := decide_eq_true (by omega)
              have t2 : decide (p < P'.length) = true := decide_eq_true hlt
              have t3 : (p : Int) < (P'.length : Int) := by omega
              have b4 : p < k.pn := by rw [HPQ.out.2, ← HPL.out]; exact hlt
              have b1 : decide ((p : Int) < (k.pn : Int)) = true := decide_eq_true (Int.ofNat_lt.2 b4)
              have b2 : (p : Int) < (k.pn : Int) := Int.ofNat_lt.2 b4
              have b3 : decide (p < k.pn) = true := decide_eq_true b4
              clear hr hp1 hlt
              go_wp2_with fail
              go_region
              all_goals
                clear c8 c10 c12 hat t1 t2 t3 b1 b2 b3 b4
                replace HW := Aside.mk (HW.out.below (below_drew1 (Below.refl _ _)))
                generalize hwd : wr.drew = w8 at *
                have hm : preAt wr B = p := preAt_of (show wr.drew.cell? ⟨B, 10, none⟩ = some (.int .i64 (p : Int)) by rw [hwd]; exact (blk_cell HW.out.b 10).trans rfl)
                clear hwd
                have cb : w8.cell? ⟨B, 10, none⟩ = some (.int .i64 (p : Int)) := (blk_cell HW.out.b 10).trans rfl
                have fb := blk_frozen HW.out.b 10
                have ei := Mo.i1 (show p < 4611686018427387904 by have := HR.out; have := HRL.out; have := HPL.out; have := HST.out.1; have := HBE.out; omega)
                go_wp2_with fail
                have HW3 := Aside.mk (HW.out.box (st' := { st with put := P', data := D', pre := ((p + 1 : Nat) : Int) }) 10 (.int .i64 ((p + 1 : Nat) : Int)) rfl ⟨rfl, rfl, rfl, rfl, rfl⟩)
                go_roundw
                case rel => exact ⟨p + 1, HR.out, by first | exact HW3.out | (simp; exact HW3.out)⟩
                case measure =>
                  have h1 : preAt (w8.setCell ⟨B, 10, none⟩ (.int .i64 ((p + 1 : Nat) : Int))) B = p + 1 := preAt_of ((blk_cell HW3.out.b 10).trans rfl)
                  have := HR.out
                  have := HRL.out
                  first | omega | (rw [h1, hm]; omega) | (simp only [hm]; rw [show ((p : Int) + 1) = ((p + 1 : Nat) : Int) from rfl, h1]; omega)
            · obtain rfl : p = run P' := by omega
              clear hr hp1
              have HPS2 := Aside.mk (show putsS st e = { st with put := P', data := D', pre := (run P' : Int), held := st.held.set t (afterPut ⟨hf, hn', hp, true⟩ e.n) } from by rw [HPS.out, show (hf + hp).toNat = aa by rw [HAA.out]; rfl, show e.n.toNat = e.data.length by rw [HEN.out]; rfl, HP'.out, HD'.out])
              by_cases hl : run P' < P'.length
              · obtain ⟨hat, _⟩ := HW.out.atP HPQ.out.1 (run P') hl
                rw [show ({ st with put := P', data := D', pre := (run P' : Int) } : St).put.getD (run P') false = false from run_at P' hl] at hat
                have t1 : decide ((run P' : Int) < (P'.length : Int)) = true := decide_eq_true (Int.ofNat_lt.2 hl)
                have t2 : decide (run P' < P'.length) = true := decide_eq_true hl
                have t3 : (run P' : Int) < (P'.length : Int) := Int.ofNat_lt.2 hl
                have b4 : run P' < k.pn := by rw [HPQ.out.2, ← HPL.out]; exact hl
                have b1 : decide ((run P' : Int) < (k.pn : Int)) = true := decide_eq_true (Int.ofNat_lt.2 b4)
                have b2 : (run P' : Int) < (k.pn : Int) := Int.ofNat_lt.2 b4
                have b3 : decide (run P' < k.pn) = true := decide_eq_true b4
                clear hl
                generalize run P' = rp at *
                go_wp2_with fail
                go_region
                all_goals
                  clear c8 c10 c12 hat t1 t2 t3 b1 b2 b3 b4
                  replace HW := Aside.mk (HW.out.below (below_drew1 (Below.refl _ _)))
                  generalize wr.drew = w8 at *
                  obtain ⟨⟨a0, a1, a2, a3⟩, hfr⟩ := HW.out.formH HEH.out t HHL.out
                  have hhe : held { st with put := P', data := D', pre := (rp : Int) } t = ⟨hf, hn', hp, true⟩ := HHH.out
                  rw [hhe] at a0 a1 a2 a3
                  simp only at a0 a1 a2 a3
                  go_wp2_with fail
                  refine start_ (n := 10) (S := fun w' => w'.cell? ⟨hq, t * 4 + 2, none⟩ = some (.int .i64 hp) ∧ w'.cell? ⟨w.heap.size, 3, none⟩ = some (.int .i64 e.n) ∧ True) (ds := [9]) #[false, false, false, false, false, false, false, false, false, false] (by kernel_rfl) rfl rfl ⟨a2, (blk_cell (blk_drew HW.out.y) 3).trans rfl, trivial⟩ (fun hHeld => ?_)
                  replace HW := Aside.mk (HW.out.below (below_drew1 (Below.refl _ _)))
                  have hfr2 : ∀ i, w8.drew.frozen? ⟨hq, i, none⟩ = false := fun i => hfr i
                  clear hfr
                  generalize w8.drew = w9 at *
                  have ew3 := w64 (show -4611686018427387904 ≤ hp + e.n ∧ hp + e.n ≤ 4611686018427387904 by have := HBE.out; have := HNN.out; omega)
                  refine pure_ (i := 0) (N := some 136) (v := ?_) (a' := ?_) #[true, false, false, false, false, false, false, false, false, false] rfl rfl (by kernel_rfl) (fun _ _ _ h => h) (Or.inl ⟨by rfl, ?_⟩) ?_ ?_
                  rotate_left
                  · intro w'
                    go_simp
                    with_reducible rfl
                  rotate_left
                  · simp only [Act.put, List.setIfInBounds_toArray, List.set_cons_zero, List.set_cons_succ, i64_w, i32_w]
                    rfl
                  refine pure_ (i := 1) (N := some 137) (v := ?_) (a' := ?_) #[true, true, false, false, false, false, false, false, false, false] rfl rfl (by kernel_rfl) (fun _ _ _ h => h) (Or.inl ⟨by rfl, ?_⟩) ?_ ?_
                  rotate_left
                  · intro w'
                    go_simp
                    with_reducible rfl
                  rotate_left
                  · simp only [Act.put, List.setIfInBounds_toArray, List.set_cons_zero, List.set_cons_succ, i64_w, i32_w]
                    rfl
                  refine pure_ (i := 2) (N := some 138) (v := ?_) (a' := ?_) #[true, true, true, false, false, false, false, false, false, false] rfl rfl (by kernel_rfl) (fun _ _ _ h => h) (Or.inl ⟨by rfl, ?_⟩) ?_ ?_
                  rotate_left
                  · intro w'
                    go_simp
                    with_reducible rfl
                  rotate_left
                  · simp only [Act.put, List.setIfInBounds_toArray, List.set_cons_zero, List.set_cons_succ, i64_w, i32_w]
                    rfl
                  refine take_ (i := 3) (N := some 139) (v := ?_) (a' := ?_) #[true, true, true, true, false, false, false, false, false, false] rfl rfl (by kernel_rfl) (fun _ _ _ h => h) (Or.inl ⟨by rfl, ?_⟩) hHeld ?_ ?_
                  rotate_left
                  · rintro w' ⟨s0, s1, s2⟩
                    go_simp
                    with_reducible rfl
                  rotate_left
                  · simp only [Act.put, List.setIfInBounds_toArray, List.set_cons_zero, List.set_cons_succ, i64_w, i32_w]
                    rfl
                  refine pure_ (i := 4) (N := some 140) (v := ?_) (a' := ?_) #[true, true, true, true, true, false, false, false, false, false] rfl rfl (by kernel_rfl) (fun _ _ _ h => h) (Or.inl ⟨by rfl, ?_⟩) ?_ ?_
                  rotate_left
                  · intro w'
                    go_simp
                    with_reducible rfl
                  rotate_left
                  · simp only [Act.put, List.setIfInBounds_toArray, List.set_cons_zero, List.set_cons_succ, i64_w, i32_w]
                    rfl
                  refine take_ (i := 5) (N := some 141) (v := ?_) (a' := ?_) #[true, true, true, true, true, true, false, false, false, false] rfl rfl (by kernel_rfl) (fun _ _ _ h => h) (Or.inl ⟨by rfl, ?_⟩) hHeld ?_ ?_
                  rotate_left
                  · rintro w' ⟨s0, s1, s2⟩
                    go_simp
                    with_reducible rfl
                  rotate_left
                  · simp only [Act.put, List.setIfInBounds_toArray, List.set_cons_zero, List.set_cons_succ, i64_w, i32_w]
                    rfl
                  refine pure_ (i := 6) (N := some 142) (v := ?_) (a' := ?_) #[true, true, true, true, true, true, true, false, false, false] rfl rfl (by kernel_rfl) (fun _ _ _ h => h) (Or.inl ⟨by rfl, ?_⟩) ?_ ?_
                  rotate_left
                  · intro w'
                    go_simp
                    with_reducible rfl
                  rotate_left
                  · simp only [Act.put, List.setIfInBounds_toArray, List.set_cons_zero, List.set_cons_succ, i64_w, i32_w]
                    rfl
                  refine pure_ (i := 7) (N := some 143) (v := ?_) (a' := ?_) #[true, true, true, true, true, true, true, true, false, false] rfl rfl (by kernel_rfl) (fun _ _ _ h => h) (Or.inl ⟨by rfl, ?_⟩) ?_ ?_
                  rotate_left
                  · intro w'
                    go_simp
                    with_reducible rfl
                  rotate_left
                  · simp only [Act.put, List.setIfInBounds_toArray, List.set_cons_zero, List.set_cons_succ, i64_w, i32_w]
                    rfl
                  refine pure_ (i := 8) (N := some 144) (v := ?_) (a' := ?_) #[true, true, true, true, true, true, true, true, true, false] rfl rfl (by kernel_rfl) (fun _ _ _ h => h) (Or.inl ⟨by rfl, ?_⟩) ?_ ?_
                  rotate_left
                  · intro w'
                    go_simp
                    with_reducible rfl
                  rotate_left
                  · simp only [Act.put, List.setIfInBounds_toArray, List.set_cons_zero, List.set_cons_succ, i64_w, i32_w]
                    rfl
                  have fb := hfr2 (t * 4 + 2)
                  refine last_ (i := 9) (N := none) #[true, true, true, true, true, true, true, true, true, true] rfl rfl (by kernel_rfl) (by decide) (fun K hK => ?_)
                  refine skip_ (w1 := ?_) (by rfl) rfl ?_ ?_
                  rotate_left
                  · go_simp
                    rfl
                  refine hK.out _ _ ?_
                  clear hK K
                  refine done_ (by kernel_rfl) ?_
                  have HW4 := HW.out.cellH HEH.out t HHL.out 2 (by decide) (.int .i64 (hp + e.n)) ⟨hf, hn', hp + e.n, true⟩ (by rw [hhe]; rfl)
                  clear HW fb hHeld hfr2 a0 a1 a2 a3 hhe
                  have HW := Aside.mk HW4
                  clear HW4
                  generalize w9.setCell ⟨hq, t * 4 + 2, none⟩ (.int .i64 (hp + e.n)) = w10 at *
                  have hlen : t < (st.held.set t ⟨hf, hn', hp + e.n, true⟩).length := by rw [List.length_set]; exact HHL.out
                  obtain ⟨⟨a0, a1, a2, a3⟩, hfr⟩ := HW.out.formH HEH.out t hlen
                  have hhe : held { st with put := P', data := D', pre := (rp : Int), held := st.held.set t ⟨hf, hn', hp + e.n, true⟩ } t = ⟨hf, hn', hp + e.n, true⟩ := (held_set _ _ _ _ HHL.out).trans (if_pos rfl)
                  rw [hhe] at a0 a1 a2 a3
                  simp only at a0 a1 a2 a3
                  have HHF := Aside.mk hfr
                  clear hfr ew3
                  generalize hpn : hp + e.n = pn at *
                  have HHE := Aside.mk (And.intro hlen hhe)
                  clear hlen hhe
                  by_cases h5 : pn = hn'
                  · have t5 : (pn == hn') = true := by rw [h5]; exact beq_self_eq_true _
                    have HAF := Aside.mk (show afterPut ⟨hf, hn', hp, true⟩ e.n = hz by unfold afterPut; rw [if_pos (by rw [hpn]; exact h5)])
                    clear h5 hpn
                    go_wp2_with fail
                    go_region
                    all_goals
                      clear a0 a1 a2 a3 t5
                      replace HW := Aside.mk (HW.out.below (below_drew1 (Below.refl _ _)))
                      have hfr : ∀ i, w10.drew.frozen? ⟨hq, i, none⟩ = false := fun i => HHF.out i
                      obtain ⟨⟨a0, a1, a2, a3⟩, _⟩ := HW.out.formH HEH.out t HHE.out.1
                      clear HHF
                      generalize w10.drew = w11 at *
                      have fz0 := hfr (t * 4)
                      have fz1 := hfr (t * 4 + 1)
                      have fz2 := hfr (t * 4 + 2)
                      have fz3 := hfr (t * 4 + 3)
                      clear hfr
                      go_upto_region 23 with (fail)
                      skip
                      have HA := HW.out.cellH HEH.out t HHE.out.1 0 (by decide) (.int .i64 0) ⟨0, hn', pn, true⟩ (by rw [HHE.out.2]; rfl)
                      simp only [List.set_set] at HA
                      have HB := HA.cellH HEH.out t (by simp only [List.length_set]; exact HHL.out) 1 (by decide) (.int .i64 0) ⟨0, 0, pn, true⟩ (by rw [hset_ HHL.out]; rfl)
                      simp only [List.set_set] at HB
                      have HC4 := HB.cellH HEH.out t (by simp only [List.length_set]; exact HHL.out) 2 (by decide) (.int .i64 0) ⟨0, 0, 0, true⟩ (by rw [hset_ HHL.out]; rfl)
                      simp only [List.set_set] at HC4
                      have HD4 := HC4.cellH HEH.out t (by simp only [List.length_set]; exact HHL.out) 3 (by decide) (.bool false) hz (by rw [hset_ HHL.out]; rfl)
                      simp only [List.set_set] at HD4
                      clear HA HB HC4 HW a0 a1 a2 a3 fz0 fz1 fz2 fz3
                      have HW := Aside.mk HD4
                      clear HD4
                      generalize (((w11.setCell ⟨hq, t * 4 + 0, none⟩ (.int .i64 0)).setCell ⟨hq, t * 4 + 1, none⟩ (.int .i64 0)).setCell ⟨hq, t * 4 + 2, none⟩ (.int .i64 0)).setCell ⟨hq, t * 4 + 3, none⟩ (.bool false) = w12 at *
                      go_wp2
                      go_ret
                      exact ⟨by rw [HC.out]; rfl, by
                        rw [HC.out, if_pos rfl, HPS2.out, HAF.out]
                        exact ⟨k, ⟨HW.out.x, HM0.out.r.same HW.out.x HW.out.b (HAF.out ▸ HPS2.out ▸ HGD.out)⟩, HW.out.t, HW.out.n⟩⟩
                  · have t5 : (pn == hn') = false := by simpa using h5
                    have HAF := Aside.mk (show afterPut ⟨hf, hn', hp, true⟩ e.n = ⟨hf, hn', pn, true⟩ by unfold afterPut; rw [if_neg (by rw [hpn]; exact h5), hpn])
                    clear h5 hpn
                    go_wp2_with fail
                    go_region
                    all_goals
                      clear a0 a1 a2 a3 t5 HHF
                      replace HW := Aside.mk (HW.out.below (below_drew1 (Below.refl _ _)))
                      generalize w10.drew = w11 at *
                      go_wp2
                      go_ret
                      exact ⟨by rw [HC.out]; rfl, by
                        rw [HC.out, if_pos rfl, HPS2.out, HAF.out]
                        exact ⟨k, ⟨HW.out.x, HM0.out.r.same HW.out.x HW.out.b (HAF.out ▸ HPS2.out ▸ HGD.out)⟩, HW.out.t, HW.out.n⟩⟩
              · have t1 : decide ((run P' : Int) < (P'.length : Int)) = false := decide_eq_false (fun h => hl (Int.ofNat_lt.1 h))
                have t2 : decide (run P' < P'.length) = false := decide_eq_false hl
                have t3 : ¬ (run P' : Int) < (P'.length : Int) := fun h => hl (Int.ofNat_lt.1 h)
                clear hl
                generalize run P' = rp at *
                go_wp2_with fail
                go_region
                all_goals
                  clear c8 c10 c12 t1 t2 t3
                  replace HW := Aside.mk (HW.out.below (below_drew1 (Below.refl _ _)))
                  generalize wr.drew = w8 at *
                  obtain ⟨⟨a0, a1, a2, a3⟩, hfr⟩ := HW.out.formH HEH.out t HHL.out
                  have hhe : held { st with put := P', data := D', pre := (rp : Int) } t = ⟨hf, hn', hp, true⟩ := HHH.out
                  rw [hhe] at a0 a1 a2 a3
                  simp only at a0 a1 a2 a3
                  go_wp2_with fail
                  refine start_ (n := 10) (S := fun w' => w'.cell? ⟨hq, t * 4 + 2, none⟩ = some (.int .i64 hp) ∧ w'.cell? ⟨w.heap.size, 3, none⟩ = some (.int .i64 e.n) ∧ True) (ds := [9]) #[false, false, false, false, false, false, false, false, false, false] (by kernel_rfl) rfl rfl ⟨a2, (blk_cell (blk_drew HW.out.y) 3).trans rfl, trivial⟩ (fun hHeld => ?_)
                  replace HW := Aside.mk (HW.out.below (below_drew1 (Below.refl _ _)))
                  have hfr2 : ∀ i, w8.drew.frozen? ⟨hq, i, none⟩ = false := fun i => hfr i
                  clear hfr
                  generalize w8.drew = w9 at *
                  have ew3 := w64 (show -4611686018427387904 ≤ hp + e.n ∧ hp + e.n ≤ 4611686018427387904 by have := HBE.out; have := HNN.out; omega)
                  refine pure_ (i := 0) (N := some 136) (v := ?_) (a' := ?_) #[true, false, false, false, false, false, false, false, false, false] rfl rfl (by kernel_rfl) (fun _ _ _ h => h) (Or.inl ⟨by rfl, ?_⟩) ?_ ?_
                  rotate_left
                  · intro w'
                    go_simp
                    with_reducible rfl
                  rotate_left
                  · simp only [Act.put, List.setIfInBounds_toArray, List.set_cons_zero, List.set_cons_succ, i64_w, i32_w]
                    rfl
                  refine pure_ (i := 1) (N := some 137) (v := ?_) (a' := ?_) #[true, true, false, false, false, false, false, false, false, false] rfl rfl (by kernel_rfl) (fun _ _ _ h => h) (Or.inl ⟨by rfl, ?_⟩) ?_ ?_
                  rotate_left
                  · intro w'
                    go_simp
                    with_reducible rfl
                  rotate_left
                  · simp only [Act.put, List.setIfInBounds_toArray, List.set_cons_zero, List.set_cons_succ, i64_w, i32_w]
                    rfl
                  refine pure_ (i := 2) (N := some 138) (v := ?_) (a' := ?_) #[true, true, true, false, false, false, false, false, false, false] rfl rfl (by kernel_rfl) (fun _ _ _ h => h) (Or.inl ⟨by rfl, ?_⟩) ?_ ?_
                  rotate_left
                  · intro w'
                    go_simp
                    with_reducible rfl
                  rotate_left
                  · simp only [Act.put, List.setIfInBounds_toArray, List.set_cons_zero, List.set_cons_succ, i64_w, i32_w]
                    rfl
                  refine take_ (i := 3) (N := some 139) (v := ?_) (a' := ?_) #[true, true, true, true, false, false, false, false, false, false] rfl rfl (by kernel_rfl) (fun _ _ _ h => h) (Or.inl ⟨by rfl, ?_⟩) hHeld ?_ ?_
                  rotate_left
                  · rintro w' ⟨s0, s1, s2⟩
                    go_simp
                    with_reducible rfl
                  rotate_left
                  · simp only [Act.put, List.setIfInBounds_toArray, List.set_cons_zero, List.set_cons_succ, i64_w, i32_w]
                    rfl
                  refine pure_ (i := 4) (N := some 140) (v := ?_) (a' := ?_) #[true, true, true, true, true, false, false, false, false, false] rfl rfl (by kernel_rfl) (fun _ _ _ h => h) (Or.inl ⟨by rfl, ?_⟩) ?_ ?_
                  rotate_left
                  · intro w'
                    go_simp
                    with_reducible rfl
                  rotate_left
                  · simp only [Act.put, List.setIfInBounds_toArray, List.set_cons_zero, List.set_cons_succ, i64_w, i32_w]
                    rfl
                  refine take_ (i := 5) (N := some 141) (v := ?_) (a' := ?_) #[true, true, true, true, true, true, false, false, false, false] rfl rfl (by kernel_rfl) (fun _ _ _ h => h) (Or.inl ⟨by rfl, ?_⟩) hHeld ?_ ?_
                  rotate_left
                  · rintro w' ⟨s0, s1, s2⟩
                    go_simp
                    with_reducible rfl
                  rotate_left
                  · simp only [Act.put, List.setIfInBounds_toArray, List.set_cons_zero, List.set_cons_succ, i64_w, i32_w]
                    rfl
                  refine pure_ (i := 6) (N := some 142) (v := ?_) (a' := ?_) #[true, true, true, true, true, true, true, false, false, false] rfl rfl (by kernel_rfl) (fun _ _ _ h => h) (Or.inl ⟨by rfl, ?_⟩) ?_ ?_
                  rotate_left
                  · intro w'
                    go_simp
                    with_reducible rfl
                  rotate_left
                  · simp only [Act.put, List.setIfInBounds_toArray, List.set_cons_zero, List.set_cons_succ, i64_w, i32_w]
                    rfl
                  refine pure_ (i := 7) (N := some 143) (v := ?_) (a' := ?_) #[true, true, true, true, true, true, true, true, false, false] rfl rfl (by kernel_rfl) (fun _ _ _ h => h) (Or.inl ⟨by rfl, ?_⟩) ?_ ?_
                  rotate_left
                  · intro w'
                    go_simp
                    with_reducible rfl
                  rotate_left
                  · simp only [Act.put, List.setIfInBounds_toArray, List.set_cons_zero, List.set_cons_succ, i64_w, i32_w]
                    rfl
                  refine pure_ (i := 8) (N := some 144) (v := ?_) (a' := ?_) #[true, true, true, true, true, true, true, true, true, false] rfl rfl (by kernel_rfl) (fun _ _ _ h => h) (Or.inl ⟨by rfl, ?_⟩) ?_ ?_
                  rotate_left
                  · intro w'
                    go_simp
                    with_reducible rfl
                  rotate_left
                  · simp only [Act.put, List.setIfInBounds_toArray, List.set_cons_zero, List.set_cons_succ, i64_w, i32_w]
                    rfl
                  have fb := hfr2 (t * 4 + 2)
                  refine last_ (i := 9) (N := none) #[true, true, true, true, true, true, true, true, true, true] rfl rfl (by kernel_rfl) (by decide) (fun K hK => ?_)
                  refine skip_ (w1 := ?_) (by rfl) rfl ?_ ?_
                  rotate_left
                  · go_simp
                    rfl
                  refine hK.out _ _ ?_
                  clear hK K
                  refine done_ (by kernel_rfl) ?_
                  have HW4 := HW.out.cellH HEH.out t HHL.out 2 (by decide) (.int .i64 (hp + e.n)) ⟨hf, hn', hp + e.n, true⟩ (by rw [hhe]; rfl)
                  clear HW fb hHeld hfr2 a0 a1 a2 a3 hhe
                  have HW := Aside.mk HW4
                  clear HW4
                  generalize w9.setCell ⟨hq, t * 4 + 2, none⟩ (.int .i64 (hp + e.n)) = w10 at *
                  have hlen : t < (st.held.set t ⟨hf, hn', hp + e.n, true⟩).length := by rw [List.length_set]; exact HHL.out
                  obtain ⟨⟨a0, a1, a2, a3⟩, hfr⟩ := HW.out.formH HEH.out t hlen
                  have hhe : held { st with put := P', data := D', pre := (rp : Int), held := st.held.set t ⟨hf, hn', hp + e.n, true⟩ } t = ⟨hf, hn', hp + e.n, true⟩ := (held_set _ _ _ _ HHL.out).trans (if_pos rfl)
                  rw [hhe] at a0 a1 a2 a3
                  simp only at a0 a1 a2 a3
                  have HHF := Aside.mk hfr
                  clear hfr ew3
                  generalize hpn : hp + e.n = pn at *
                  have HHE := Aside.mk (And.intro hlen hhe)
                  clear hlen hhe
                  by_cases h5 : pn = hn'
                  · have t5 : (pn == hn') = true := by rw [h5]; exact beq_self_eq_true _
                    have HAF := Aside.mk (show afterPut ⟨hf, hn', hp, true⟩ e.n = hz by unfold afterPut; rw [if_pos (by rw [hpn]; exact h5)])
                    clear h5 hpn
                    go_wp2_with fail
                    go_region
                    all_goals
                      clear a0 a1 a2 a3 t5
                      replace HW := Aside.mk (HW.out.below (below_drew1 (Below.refl _ _)))
                      have hfr : ∀ i, w10.drew.frozen? ⟨hq, i, none⟩ = false := fun i => HHF.out i
                      obtain ⟨⟨a0, a1, a2, a3⟩, _⟩ := HW.out.formH HEH.out t HHE.out.1
                      clear HHF
                      generalize w10.drew = w11 at *
                      have fz0 := hfr (t * 4)
                      have fz1 := hfr (t * 4 + 1)
                      have fz2 := hfr (t * 4 + 2)
                      have fz3 := hfr (t * 4 + 3)
                      clear hfr
                      go_upto_region 23 with (fail)
                      skip
                      have HA := HW.out.cellH HEH.out t HHE.out.1 0 (by decide) (.int .i64 0) ⟨0, hn', pn, true⟩ (by rw [HHE.out.2]; rfl)
                      simp only [List.set_set] at HA
                      have HB := HA.cellH HEH.out t (by simp only [List.length_set]; exact HHL.out) 1 (by decide) (.int .i64 0) ⟨0, 0, pn, true⟩ (by rw [hset_ HHL.out]; rfl)
                      simp only [List.set_set] at HB
                      have HC4 := HB.cellH HEH.out t (by simp only [List.length_set]; exact HHL.out) 2 (by decide) (.int .i64 0) ⟨0, 0, 0, true⟩ (by rw [hset_ HHL.out]; rfl)
                      simp only [List.set_set] at HC4
                      have HD4 := HC4.cellH HEH.out t (by simp only [List.length_set]; exact HHL.out) 3 (by decide) (.bool false) hz (by rw [hset_ HHL.out]; rfl)
                      simp only [List.set_set] at HD4
                      clear HA HB HC4 HW a0 a1 a2 a3 fz0 fz1 fz2 fz3
                      have HW := Aside.mk HD4
                      clear HD4
                      generalize (((w11.setCell ⟨hq, t * 4 + 0, none⟩ (.int .i64 0)).setCell ⟨hq, t * 4 + 1, none⟩ (.int .i64 0)).setCell ⟨hq, t * 4 + 2, none⟩ (.int .i64 0)).setCell ⟨hq, t * 4 + 3, none⟩ (.bool false) = w12 at *
                      go_wp2
                      go_ret
                      exact ⟨by rw [HC.out]; rfl, by
                        rw [HC.out, if_pos rfl, HPS2.out, HAF.out]
                        exact ⟨k, ⟨HW.out.x, HM0.out.r.same HW.out.x HW.out.b (HAF.out ▸ HPS2.out ▸ HGD.out)⟩, HW.out.t, HW.out.n⟩⟩
                  · have t5 : (pn == hn') = false := by simpa using h5
                    have HAF := Aside.mk (show afterPut ⟨hf, hn', hp, true⟩ e.n = ⟨hf, hn', pn, true⟩ by unfold afterPut; rw [if_neg (by rw [hpn]; exact h5), hpn])
                    clear h5 hpn
                    go_wp2_with fail
                    go_region
                    all_goals
                      clear a0 a1 a2 a3 t5 HHF
                      replace HW := Aside.mk (HW.out.below (below_drew1 (Below.refl _ _)))
                      generalize w10.drew = w11 at *
                      go_wp2
                      go_ret
                      exact ⟨by rw [HC.out]; rfl, by
                        rw [HC.out, if_pos rfl, HPS2.out, HAF.out]
                        exact ⟨k, ⟨HW.out.x, HM0.out.r.same HW.out.x HW.out.b (HAF.out ▸ HPS2.out ▸ HGD.out)⟩, HW.out.t, HW.out.n⟩⟩
        have t1 : decide ((i : Int) < (e.data.length : Int)) = true := decide_eq_true (by omega)
        have t2 : decide (i < e.data.length) = true := decide_eq_true hlt
        have t3 : (i : Int) < (e.data.length : Int) := by omega
        have HLT := Aside.mk hlt
        obtain ⟨⟨a0, a1, a2, a3⟩, hfr⟩ := HW.out.formH HEH.out t HHL.out
        rw [show held { st with put := fillT st.put aa i, data := fillD st.data aa e.data i } t = ⟨hf, hn', hp, true⟩ from HHH.out] at a0 a1 a2 a3
        simp only at a0 a1 a2 a3
        have ei := Mo.i1 (show i < 4611686018427387904 by have := HDL.out; omega)
        clear hi hlt
        go_wp2_with fail
        refine start_ (n := 17) (S := fun w' => w'.cell? ⟨B, 12, none⟩ = some (.slice (some ⟨pq, 0, none⟩) k.pn k.pc) ∧ w'.cell? ⟨hq, t * 4, none⟩ = some (.int .i64 hf) ∧ w'.cell? ⟨hq, t * 4 + 2, none⟩ = some (.int .i64 hp) ∧ True) (ds := [16]) #[false, false, false, false, false, false, false, false, false, false, false, false, false, false, false, false, false] (by kernel_rfl) rfl rfl ⟨(blk_cell (blk_drew HW.out.b) 12).trans (by rw [← HPQ.out.1]; rfl), a0, a2, trivial⟩ (fun hHeld => ?_)
        replace HW := Aside.mk (HW.out.below (below_drew1 (Below.refl _ _)))
        clear a0 a1 a2 a3 hfr
        generalize wr.drew = w8 at *
        obtain ⟨j, hj⟩ : ∃ j : Nat, j = aa + i := ⟨_, rfl⟩
        have ew2 := idx_ HAA.out hj HAN.out.2.2.2 HLT.out HDL.out
        have HJ := Aside.mk hj
        have b4 : j < k.pn := by rw [HPQ.out.2]; exact bnd_ HAN.out.1 HLT.out hj
        have b1 : decide ((j : Int) < (k.pn : Int)) = true := decide_eq_true (Int.ofNat_lt.2 b4)
        have b2 : (j : Int) < (k.pn : Int) := Int.ofNat_lt.2 b4
        have b3 : decide (j < k.pn) = true := decide_eq_true b4
        clear hj
        refine pure_ (i := 0) (N := some 70) (v := ?_) (a' := ?_) #[true, false, false, false, false, false, false, false, false, false, false, false, false, false, false, false, false] rfl rfl (by kernel_rfl) (fun _ _ _ h => h) (Or.inl ⟨by rfl, ?_⟩) ?_ ?_
        rotate_left
        · intro w'
          go_simp
          with_reducible rfl
        rotate_left
        · simp only [Act.put, List.setIfInBounds_toArray, List.set_cons_zero, List.set_cons_succ, i64_w, i32_w]
          rfl
        refine pure_ (i := 1) (N := some 71) (v := ?_) (a' := ?_) #[true, true, false, false, false, false, false, false, false, false, false, false, false, false, false, false, false] rfl rfl (by kernel_rfl) (fun _ _ _ h => h) (Or.inl ⟨by rfl, ?_⟩) ?_ ?_
        rotate_left
        · intro w'
          go_simp
          with_reducible rfl
        rotate_left
        · simp only [Act.put, List.setIfInBounds_toArray, List.set_cons_zero, List.set_cons_succ, i64_w, i32_w]
          rfl
        refine pure_ (i := 2) (N := some 72) (v := ?_) (a' := ?_) #[true, true, true, false, false, false, false, false, false, false, false, false, false, false, false, false, false] rfl rfl (by kernel_rfl) (fun _ _ _ h => h) (Or.inl ⟨by rfl, ?_⟩) ?_ ?_
        rotate_left
        · intro w'
          go_simp
          with_reducible rfl
        rotate_left
        · simp only [Act.put, List.setIfInBounds_toArray, List.set_cons_zero, List.set_cons_succ, i64_w, i32_w]
          rfl
        refine take_ (i := 3) (N := some 73) (v := ?_) (a' := ?_) #[true, true, true, true, false, false, false, false, false, false, false, false, false, false, false, false, false] rfl rfl (by kernel_rfl) (fun _ _ _ h => h) (Or.inl ⟨by rfl, ?_⟩) hHeld ?_ ?_
        rotate_left
        · rintro w' ⟨s0, s1, s2, s3⟩
          go_simp
          with_reducible rfl
        rotate_left
        · simp only [Act.put, List.setIfInBounds_toArray, List.set_cons_zero, List.set_cons_succ, i64_w, i32_w]
          rfl
        refine pure_ (i := 4) (N := some 74) (v := ?_) (a' := ?_) #[true, true, true, true, true, false, false, false, false, false, false, false, false, false, false, false, false] rfl rfl (by kernel_rfl) (fun _ _ _ h => h) (Or.inl ⟨by rfl, ?_⟩) ?_ ?_
        rotate_left
        · intro w'
          go_simp
          with_reducible rfl
        rotate_left
        · simp only [Act.put, List.setIfInBounds_toArray, List.set_cons_zero, List.set_cons_succ, i64_w, i32_w]
          rfl
        refine pure_ (i := 5) (N := some 75) (v := ?_) (a' := ?_) #[true, true, true, true, true, true, false, false, false, false, false, false, false, false, false, false, false] rfl rfl (by kernel_rfl) (fun _ _ _ h => h) (Or.inl ⟨by rfl, ?_⟩) ?_ ?_
        rotate_left
        · intro w'
          go_simp
          with_reducible rfl
        rotate_left
        · simp only [Act.put, List.setIfInBounds_toArray, List.set_cons_zero, List.set_cons_succ, i64_w, i32_w]
          rfl
        refine pure_ (i := 6) (N := some 76) (v := ?_) (a' := ?_) #[true, true, true, true, true, true, true, false, false, false, false, false, false, false, false, false, false] rfl rfl (by kernel_rfl) (fun _ _ _ h => h) (Or.inl ⟨by rfl, ?_⟩) ?_ ?_
        rotate_left
        · intro w'
          go_simp
          with_reducible rfl
        rotate_left
        · simp only [Act.put, List.setIfInBounds_toArray, List.set_cons_zero, List.set_cons_succ, i64_w, i32_w]
          rfl
        refine take_ (i := 7) (N := some 77) (v := ?_) (a' := ?_) #[true, true, true, true, true, true, true, true, false, false, false, false, false, false, false, false, false] rfl rfl (by kernel_rfl) (fun _ _ _ h => h) (Or.inl ⟨by rfl, ?_⟩) hHeld ?_ ?_
        rotate_left
        · rintro w' ⟨s0, s1, s2, s3⟩
          go_simp
          with_reducible rfl
        rotate_left
        · simp only [Act.put, List.setIfInBounds_toArray, List.set_cons_zero, List.set_cons_succ, i64_w, i32_w]
          rfl
        refine pure_ (i := 8) (N := some 78) (v := ?_) (a' := ?_) #[true, true, true, true, true, true, true, true, true, false, false, false, false, false, false, false, false] rfl rfl (by kernel_rfl) (fun _ _ _ h => h) (Or.inl ⟨by rfl, ?_⟩) ?_ ?_
        rotate_left
        · intro w'
          go_simp
          with_reducible rfl
        rotate_left
        · simp only [Act.put, List.setIfInBounds_toArray, List.set_cons_zero, List.set_cons_succ, i64_w, i32_w]
          rfl
        refine pure_ (i := 9) (N := some 79) (v := ?_) (a' := ?_) #[true, true, true, true, true, true, true, true, true, true, false, false, false, false, false, false, false] rfl rfl (by kernel_rfl) (fun _ _ _ h => h) (Or.inl ⟨by rfl, ?_⟩) ?_ ?_
        rotate_left
        · intro w'
          go_simp
          with_reducible rfl
        rotate_left
        · simp only [Act.put, List.setIfInBounds_toArray, List.set_cons_zero, List.set_cons_succ, i64_w, i32_w]
          rfl
        refine pure_ (i := 10) (N := some 80) (v := ?_) (a' := ?_) #[true, true, true, true, true, true, true, true, true, true, true, false, false, false, false, false, false] rfl rfl (by kernel_rfl) (fun _ _ _ h => h) (Or.inl ⟨by rfl, ?_⟩) ?_ ?_
        rotate_left
        · intro w'
          go_simp
          with_reducible rfl
        rotate_left
        · simp only [Act.put, List.setIfInBounds_toArray, List.set_cons_zero, List.set_cons_succ, i64_w, i32_w]
          rfl
        refine take_ (i := 11) (N := some 81) (v := ?_) (a' := ?_) #[true, true, true, true, true, true, true, true, true, true, true, true, false, false, false, false, false] rfl rfl (by kernel_rfl) (fun _ _ _ h => h) (Or.inl ⟨by rfl, ?_⟩) hHeld ?_ ?_
        rotate_left
        · rintro w' ⟨s0, s1, s2, s3⟩
          go_simp
          with_reducible rfl
        rotate_left
        · simp only [Act.put, List.setIfInBounds_toArray, List.set_cons_zero, List.set_cons_succ, i64_w, i32_w]
          rfl
        refine pure_ (i := 12) (N := some 82) (v := ?_) (a' := ?_) #[true, true, true, true, true, true, true, true, true, true, true, true, true, false, false, false, false] rfl rfl (by kernel_rfl) (fun _ _ _ h => h) (Or.inl ⟨by rfl, ?_⟩) ?_ ?_
        rotate_left
        · intro w'
          go_simp
          with_reducible rfl
        rotate_left
        · simp only [Act.put, List.setIfInBounds_toArray, List.set_cons_zero, List.set_cons_succ, i64_w, i32_w]
          rfl
        refine pure_ (i := 13) (N := some 83) (v := ?_) (a' := ?_) #[true, true, true, true, true, true, true, true, true, true, true, true, true, true, false, false, false] rfl rfl (by kernel_rfl) (fun _ _ _ h => h) (Or.inl ⟨by rfl, ?_⟩) ?_ ?_
        rotate_left
        · intro w'
          go_simp
          with_reducible rfl
        rotate_left
        · simp only [Act.put, List.setIfInBounds_toArray, List.set_cons_zero, List.set_cons_succ, i64_w, i32_w]
          rfl
        refine pure_ (i := 14) (N := some 84) (v := ?_) (a' := ?_) #[true, true, true, true, true, true, true, true, true, true, true, true, true, true, true, false, false] rfl rfl (by kernel_rfl) (fun _ _ _ h => h) (Or.inl ⟨by rfl, ?_⟩) ?_ ?_
        rotate_left
        · intro w'
          go_simp
          with_reducible rfl
        rotate_left
        · simp only [Act.put, List.setIfInBounds_toArray, List.set_cons_zero, List.set_cons_succ, i64_w, i32_w]
          rfl
        refine pure_ (i := 15) (N := some 85) (v := ?_) (a' := ?_) #[true, true, true, true, true, true, true, true, true, true, true, true, true, true, true, true, false] rfl rfl (by kernel_rfl) (fun _ _ _ h => h) (Or.inl ⟨by rfl, ?_⟩) ?_ ?_
        rotate_left
        · intro w'
          go_simp
          with_reducible rfl
        rotate_left
        · simp only [Act.put, List.setIfInBounds_toArray, List.set_cons_zero, List.set_cons_succ, i64_w, i32_w]
          rfl
        have hat := HW.out.atP HPQ.out.1 j (by show j < (fillT st.put aa i).length; rw [fillT_len]; exact bnd_ HAN.out.1 HLT.out HJ.out)
        have cb := hat.1
        have fb := hat.2
        refine last_ (i := 16) (N := none) #[true, true, true, true, true, true, true, true, true, true, true, true, true, true, true, true, true] rfl rfl (by kernel_rfl) (by decide) (fun K hK => ?_)
        refine skip_ (w1 := ?_) (by rfl) rfl ?_ ?_
        rotate_left
        · go_simp
          rfl
        refine hK.out _ _ ?_
        clear hK K
        refine done_ (by kernel_rfl) ?_
        replace HW := Aside.mk (HW.out.cellP HPQ.out.1 j true)
        clear cb fb hat hHeld
        generalize w8.setCell ⟨pq, j, none⟩ (.bool true) = w9 at *
        obtain ⟨⟨a0, a1, a2, a3⟩, hfr⟩ := HW.out.formH HEH.out t HHL.out
        rw [show held { st with put := (fillT st.put aa i).set j true, data := fillD st.data aa e.data i } t = ⟨hf, hn', hp, true⟩ from HHH.out] at a0 a1 a2 a3
        simp only at a0 a1 a2 a3
        clear b1 b2 b3 b4
        go_wp2_with fail
        obtain ⟨bd, hBD, hbx⟩ := HW.out.ev HDF.out i HLT.out
        have HBX := Aside.mk hBD
        have HXI := Aside.mk hbx
        refine start_ (n := 22) (S := fun w' => w'.cell? ⟨B, 13, none⟩ = some (.slice (some ⟨dq, 0, none⟩) k.dn k.dc) ∧ w'.cell? ⟨hq, t * 4, none⟩ = some (.int .i64 hf) ∧ w'.cell? ⟨hq, t * 4 + 2, none⟩ = some (.int .i64 hp) ∧ w'.cell? ⟨w.heap.size, 6, none⟩ = some (.slice (some bd) e.data.length c) ∧ w'.cell? (bd.add i) = some (.int .i64 (e.data.getD i 0)) ∧ True) (ds := [21]) #[false, false, false, false, false, false, false, false, false, false, false, false, false, false, false, false, false, false, false, false, false, false] (by kernel_rfl) rfl rfl ⟨(blk_cell (blk_drew HW.out.b) 13).trans (by rw [← HDQ.out.1]; rfl), a0, a2, (blk_cell (blk_drew HW.out.y) 6).trans (by rw [HBX.out]; rfl), hbx, trivial⟩ (fun hHeld => ?_)
        replace HW := Aside.mk (HW.out.below (below_drew1 (Below.refl _ _)))
        clear a0 a1 a2 a3 hfr hbx hBD HXI
        generalize w9.drew = w10 at *
        have b4 : j < k.dn := by rw [HDQ.out.2]; exact bnd_ HAN.out.2.1 HLT.out HJ.out
        have b1 : decide ((j : Int) < (k.dn : Int)) = true := decide_eq_true (Int.ofNat_lt.2 b4)
        have b2 : (j : Int) < (k.dn : Int) := Int.ofNat_lt.2 b4
        have b3 : decide (j < k.dn) = true := decide_eq_true b4
        generalize hxi : e.data.getD i 0 = xi at *
        have HXI := Aside.mk hxi
        clear hxi
        refine pure_ (i := 0) (N := some 86) (v := ?_) (a' := ?_) #[true, false, false, false, false, false, false, false, false, false, false, false, false, false, false, false, false, false, false, false, false, false] rfl rfl (by kernel_rfl) (fun _ _ _ h => h) (Or.inl ⟨by rfl, ?_⟩) ?_ ?_
        rotate_left
        · intro w'
          go_simp
          with_reducible rfl
        rotate_left
        · simp only [Act.put, List.setIfInBounds_toArray, List.set_cons_zero, List.set_cons_succ, i64_w, i32_w]
          rfl
        refine pure_ (i := 1) (N := some 87) (v := ?_) (a' := ?_) #[true, true, false, false, false, false, false, false, false, false, false, false, false, false, false, false, false, false, false, false, false, false] rfl rfl (by kernel_rfl) (fun _ _ _ h => h) (Or.inl ⟨by rfl, ?_⟩) ?_ ?_
        rotate_left
        · intro w'
          go_simp
          with_reducible rfl
        rotate_left
        · simp only [Act.put, List.setIfInBounds_toArray, List.set_cons_zero, List.set_cons_succ, i64_w, i32_w]
          rfl
        refine pure_ (i := 2) (N := some 88) (v := ?_) (a' := ?_) #[true, true, true, false, false, false, false, false, false, false, false, false, false, false, false, false, false, false, false, false, false, false] rfl rfl (by kernel_rfl) (fun _ _ _ h => h) (Or.inl ⟨by rfl, ?_⟩) ?_ ?_
        rotate_left
        · intro w'
          go_simp
          with_reducible rfl
        rotate_left
        · simp only [Act.put, List.setIfInBounds_toArray, List.set_cons_zero, List.set_cons_succ, i64_w, i32_w]
          rfl
        refine take_ (i := 3) (N := some 89) (v := ?_) (a' := ?_) #[true, true, true, true, false, false, false, false, false, false, false, false, false, false, false, false, false, false, false, false, false, false] rfl rfl (by kernel_rfl) (fun _ _ _ h => h) (Or.inl ⟨by rfl, ?_⟩) hHeld ?_ ?_
        rotate_left
        · rintro w' ⟨s0, s1, s2, s3, s4, s5⟩
          go_simp
          with_reducible rfl
        rotate_left
        · simp only [Act.put, List.setIfInBounds_toArray, List.set_cons_zero, List.set_cons_succ, i64_w, i32_w]
          rfl
        refine pure_ (i := 4) (N := some 90) (v := ?_) (a' := ?_) #[true, true, true, true, true, false, false, false, false, false, false, false, false, false, false, false, false, false, false, false, false, false] rfl rfl (by kernel_rfl) (fun _ _ _ h => h) (Or.inl ⟨by rfl, ?_⟩) ?_ ?_
        rotate_left
        · intro w'
          go_simp
          with_reducible rfl
        rotate_left
        · simp only [Act.put, List.setIfInBounds_toArray, List.set_cons_zero, List.set_cons_succ, i64_w, i32_w]
          rfl
        refine pure_ (i := 5) (N := some 91) (v := ?_) (a' := ?_) #[true, true, true, true, true, true, false, false, false, false, false, false, false, false, false, false, false, false, false, false, false, false] rfl rfl (by kernel_rfl) (fun _ _ _ h => h) (Or.inl ⟨by rfl, ?_⟩) ?_ ?_
        rotate_left
        · intro w'
          go_simp
          with_reducible rfl
        rotate_left
        · simp only [Act.put, List.setIfInBounds_toArray, List.set_cons_zero, List.set_cons_succ, i64_w, i32_w]
          rfl
        refine pure_ (i := 6) (N := some 92) (v := ?_) (a' := ?_) #[true, true, true, true, true, true, true, false, false, false, false, false, false, false, false, false, false, false, false, false, false, false] rfl rfl (by kernel_rfl) (fun _ _ _ h => h) (Or.inl ⟨by rfl, ?_⟩) ?_ ?_
        rotate_left
        · intro w'
          go_simp
          with_reducible rfl
        rotate_left
        · simp only [Act.put, List.setIfInBounds_toArray, List.set_cons_zero, List.set_cons_succ, i64_w, i32_w]
          rfl
        refine take_ (i := 7) (N := some 93) (v := ?_) (a' := ?_) #[true, true, true, true, true, true, true, true, false, false, false, false, false, false, false, false, false, false, false, false, false, false] rfl rfl (by kernel_rfl) (fun _ _ _ h => h) (Or.inl ⟨by rfl, ?_⟩) hHeld ?_ ?_
        rotate_left
        · rintro w' ⟨s0, s1, s2, s3, s4, s5⟩
          go_simp
          with_reducible rfl
        rotate_left
        · simp only [Act.put, List.setIfInBounds_toArray, List.set_cons_zero, List.set_cons_succ, i64_w, i32_w]
          rfl
        refine pure_ (i := 8) (N := some 94) (v := ?_) (a' := ?_) #[true, true, true, true, true, true, true, true, true, false, false, false, false, false, false, false, false, false, false, false, false, false] rfl rfl (by kernel_rfl) (fun _ _ _ h => h) (Or.inl ⟨by rfl, ?_⟩) ?_ ?_
        rotate_left
        · intro w'
          go_simp
          with_reducible rfl
        rotate_left
        · simp only [Act.put, List.setIfInBounds_toArray, List.set_cons_zero, List.set_cons_succ, i64_w, i32_w]
          rfl
        refine pure_ (i := 9) (N := some 95) (v := ?_) (a' := ?_) #[true, true, true, true, true, true, true, true, true, true, false, false, false, false, false, false, false, false, false, false, false, false] rfl rfl (by kernel_rfl) (fun _ _ _ h => h) (Or.inl ⟨by rfl, ?_⟩) ?_ ?_
        rotate_left
        · intro w'
          go_simp
          with_reducible rfl
        rotate_left
        · simp only [Act.put, List.setIfInBounds_toArray, List.set_cons_zero, List.set_cons_succ, i64_w, i32_w]
          rfl
        refine pure_ (i := 10) (N := some 96) (v := ?_) (a' := ?_) #[true, true, true, true, true, true, true, true, true, true, true, false, false, false, false, false, false, false, false, false, false, false] rfl rfl (by kernel_rfl) (fun _ _ _ h => h) (Or.inl ⟨by rfl, ?_⟩) ?_ ?_
        rotate_left
        · intro w'
          go_simp
          with_reducible rfl
        rotate_left
        · simp only [Act.put, List.setIfInBounds_toArray, List.set_cons_zero, List.set_cons_succ, i64_w, i32_w]
          rfl
        refine take_ (i := 11) (N := some 97) (v := ?_) (a' := ?_) #[true, true, true, true, true, true, true, true, true, true, true, true, false, false, false, false, false, false, false, false, false, false] rfl rfl (by kernel_rfl) (fun _ _ _ h => h) (Or.inl ⟨by rfl, ?_⟩) hHeld ?_ ?_
        rotate_left
        · rintro w' ⟨s0, s1, s2, s3, s4, s5⟩
          go_simp
          with_reducible rfl
        rotate_left
        · simp only [Act.put, List.setIfInBounds_toArray, List.set_cons_zero, List.set_cons_succ, i64_w, i32_w]
          rfl
        refine pure_ (i := 12) (N := some 98) (v := ?_) (a' := ?_) #[true, true, true, true, true, true, true, true, true, true, true, true, true, false, false, false, false, false, false, false, false, false] rfl rfl (by kernel_rfl) (fun _ _ _ h => h) (Or.inl ⟨by rfl, ?_⟩) ?_ ?_
        rotate_left
        · intro w'
          go_simp
          with_reducible rfl
        rotate_left
        · simp only [Act.put, List.setIfInBounds_toArray, List.set_cons_zero, List.set_cons_succ, i64_w, i32_w]
          rfl
        refine pure_ (i := 13) (N := some 99) (v := ?_) (a' := ?_) #[true, true, true, true, true, true, true, true, true, true, true, true, true, true, false, false, false, false, false, false, false, false] rfl rfl (by kernel_rfl) (fun _ _ _ h => h) (Or.inl ⟨by rfl, ?_⟩) ?_ ?_
        rotate_left
        · intro w'
          go_simp
          with_reducible rfl
        rotate_left
        · simp only [Act.put, List.setIfInBounds_toArray, List.set_cons_zero, List.set_cons_succ, i64_w, i32_w]
          rfl
        refine pure_ (i := 14) (N := some 100) (v := ?_) (a' := ?_) #[true, true, true, true, true, true, true, true, true, true, true, true, true, true, true, false, false, false, false, false, false, false] rfl rfl (by kernel_rfl) (fun _ _ _ h => h) (Or.inl ⟨by rfl, ?_⟩) ?_ ?_
        rotate_left
        · intro w'
          go_simp
          with_reducible rfl
        rotate_left
        · simp only [Act.put, List.setIfInBounds_toArray, List.set_cons_zero, List.set_cons_succ, i64_w, i32_w]
          rfl
        refine pure_ (i := 15) (N := some 101) (v := ?_) (a' := ?_) #[true, true, true, true, true, true, true, true, true, true, true, true, true, true, true, true, false, false, false, false, false, false] rfl rfl (by kernel_rfl) (fun _ _ _ h => h) (Or.inl ⟨by rfl, ?_⟩) ?_ ?_
        rotate_left
        · intro w'
          go_simp
          with_reducible rfl
        rotate_left
        · simp only [Act.put, List.setIfInBounds_toArray, List.set_cons_zero, List.set_cons_succ, i64_w, i32_w]
          rfl
        refine take_ (i := 16) (N := some 102) (v := ?_) (a' := ?_) #[true, true, true, true, true, true, true, true, true, true, true, true, true, true, true, true, true, false, false, false, false, false] rfl rfl (by kernel_rfl) (fun _ _ _ h => h) (Or.inl ⟨by rfl, ?_⟩) hHeld ?_ ?_
        rotate_left
        · rintro w' ⟨s0, s1, s2, s3, s4, s5⟩
          go_simp
          with_reducible rfl
        rotate_left
        · simp only [Act.put, List.setIfInBounds_toArray, List.set_cons_zero, List.set_cons_succ, i64_w, i32_w]
          rfl
        refine pure_ (i := 17) (N := some 103) (v := ?_) (a' := ?_) #[true, true, true, true, true, true, true, true, true, true, true, true, true, true, true, true, true, true, false, false, false, false] rfl rfl (by kernel_rfl) (fun _ _ _ h => h) (Or.inl ⟨by rfl, ?_⟩) ?_ ?_
        rotate_left
        · intro w'
          go_simp
          with_reducible rfl
        rotate_left
        · simp only [Act.put, List.setIfInBounds_toArray, List.set_cons_zero, List.set_cons_succ, i64_w, i32_w]
          rfl
        refine pure_ (i := 18) (N := some 104) (v := ?_) (a' := ?_) #[true, true, true, true, true, true, true, true, true, true, true, true, true, true, true, true, true, true, true, false, false, false] rfl rfl (by kernel_rfl) (fun _ _ _ h => h) (Or.inl ⟨by rfl, ?_⟩) ?_ ?_
        rotate_left
        · intro w'
          go_simp
          with_reducible rfl
        rotate_left
        · simp only [Act.put, List.setIfInBounds_toArray, List.set_cons_zero, List.set_cons_succ, i64_w, i32_w]
          rfl
        refine take_ (i := 19) (N := some 105) (v := ?_) (a' := ?_) #[true, true, true, true, true, true, true, true, true, true, true, true, true, true, true, true, true, true, true, true, false, false] rfl rfl (by kernel_rfl) (fun _ _ _ h => h) (Or.inl ⟨by rfl, ?_⟩) hHeld ?_ ?_
        rotate_left
        · rintro w' ⟨s0, s1, s2, s3, s4, s5⟩
          go_simp
          with_reducible rfl
        rotate_left
        · simp only [Act.put, List.setIfInBounds_toArray, List.set_cons_zero, List.set_cons_succ, i64_w, i32_w]
          rfl
        refine pure_ (i := 20) (N := some 106) (v := ?_) (a' := ?_) #[true, true, true, true, true, true, true, true, true, true, true, true, true, true, true, true, true, true, true, true, true, false] rfl rfl (by kernel_rfl) (fun _ _ _ h => h) (Or.inl ⟨by rfl, ?_⟩) ?_ ?_
        rotate_left
        · intro w'
          go_simp
          with_reducible rfl
        rotate_left
        · simp only [Act.put, List.setIfInBounds_toArray, List.set_cons_zero, List.set_cons_succ, i64_w, i32_w]
          rfl
        have hat := HW.out.atD HDQ.out.1 j (by show j < (fillD st.data aa e.data i).length; rw [fillD_len]; exact bnd_ HAN.out.2.1 HLT.out HJ.out)
        have cb := hat.1
        have fb := hat.2
        refine last_ (i := 21) (N := none) #[true, true, true, true, true, true, true, true, true, true, true, true, true, true, true, true, true, true, true, true, true, true] rfl rfl (by kernel_rfl) (by decide) (fun K hK => ?_)
        refine skip_ (w1 := ?_) (by rfl) rfl ?_ ?_
        rotate_left
        · go_simp
          rfl
        refine hK.out _ _ ?_
        clear hK K
        refine done_ (by kernel_rfl) ?_
        have HW2 := HW.out.cellD HDQ.out.1 j xi
        have hst : ({ st with put := (fillT st.put aa i).set j true, data := (fillD st.data aa e.data i).set j xi } : St) = { st with put := fillT st.put aa (i + 1), data := fillD st.data aa e.data (i + 1) } := by rw [HJ.out, ← HXI.out]; rfl
        rw [hst] at HW2
        clear HW hst
        have HW := Aside.mk HW2
        clear cb fb hat hHeld HW2
        generalize w10.setCell ⟨dq, j, none⟩ (.int .i64 xi) = w11 at *
        clear b1 b2 b3 b4 ew2 t1 t2 t3
        go_wp2_with fail
        go_roundw
        case rel => exact ⟨i + 1, HLT.out, by first | rfl | simp, HW.out⟩
        case measure =>
          simp only [intOf, tn1, Int.toNat_natCast]
          exact meas1 HLT.out
end Go.Proofs.YtnnfcdffnckoiaaDoor.Mo
/- The program's model: Apply. -/
set_option linter.unusedVariables false
set_option linter.unusedSimpArgs false
set_option maxRecDepth 100000
namespace Go.Proofs.YtnnfcdffnckoiaaDoor.Mo
open Go.RowKit Go.Proofs.YtnnfcdffnckoiaaDoorW.PrintWords Go.Proofs.YtnnfcdffnckoiaaDoorW.PrintLast Go.Proofs.YtnnfcdffnckoiaaDoorW.PrintMore
theorem WPost.up {w0 w w2 W : World} {B : Nat} {k : Mk} {cx : Cx} {st : St} {C : Int} {S : St} {r : Ending} (h : WPost w0 w2 B k cx st C S r W) (h0 : Below w0.heap.size w0 w) (b : Below w.heap.size w w2) : WPost w0 w B k cx st C S r W := by
  obtain ⟨hv, k', hm, ht, hn⟩ := h
  exact ⟨hv, k', hm, ((TK.refl h0).below b).trans ht (fun q hq => .inl hq), fun q hq => (hn q hq).imp id (fun h => Nat.le_trans b.size h)⟩
set_option maxHeartbeats 8000000 in
theorem papply (w0 w : World) (h0 : Below w0.heap.size w0 w) (B : Nat) (k : Mk) (cx : Cx) (st : St) (h : MM w0.heap.size w B k cx st) (e : Ev) (Bd : Option Addr) (c : Nat) (ht : I64 e.thread) (hn : I64 e.n) (hdf : Kd.F (Kd.int .i64) w (fun q => ¬ Own k B q) Bd e.data.length e.data) (hdl : e.data.length ≤ 100000) (hg : code cx st e = 0 → Good cx (next cx st e)) :
    Calls Tryd.prog 29 #[.pointer (some ⟨B, 0, none⟩), .agg #[.int .i64 e.kind, .int .i64 e.thread, .int .i64 e.op, .int .i64 e.n, .int .u64 e.pos, .int .i64 e.code, .slice Bd e.data.length c]] w fun r W => WPost w0 w B k cx st (code cx st e) (next cx st e) r W := by
  have HB := Aside.mk (below_alloc (Below.refl w.heap.size w) (.cells #[.int .i64 e.kind, .int .i64 e.thread, .int .i64 e.op, .int .i64 e.n, .int .u64 e.pos, .int .i64 e.code, .slice Bd e.data.length c] 44))
  have HY := Aside.mk (heap_alloc_new w (.cells #[.int .i64 e.kind, .int .i64 e.thread, .int .i64 e.op, .int .i64 e.n, .int .u64 e.pos, .int .i64 e.code, .slice Bd e.data.length c] 44))
  have H0 := Aside.mk h0
  have HM := Aside.mk h
  have HA := Aside.mk (And.intro ht (And.intro hn (And.intro hdf hdl)))
  have HG := Aside.mk hg
  clear h0 h ht hn hdf hdl hg
  go_enter Tryd.func29, Tryd.ntmps29
  go_upto_region 1 with (fail)
  generalize w.alloc (.cells #[.int .i64 e.kind, .int .i64 e.thread, .int .i64 e.op, .int .i64 e.n, .int .u64 e.pos, .int .i64 e.code, .slice Bd e.data.length c] 44) = w2 at *
  have HM2 := Aside.mk (HM.out.below HB.out)
  have H02 := Aside.mk (below_low HB.out H0.out)
  obtain ⟨y0, y1, y2, y3, y4, y5, y6⟩ := cell7 HY.out
  by_cases h3 : e.kind = 3
  · have t3 : (e.kind == 3) = true := by rw [h3]; rfl
    have EC := Aside.mk (show code cx st e = takeC cx st e from by unfold code; rw [if_pos h3])
    have ES := Aside.mk (show next cx st e = takeS st e from by unfold next; rw [if_pos h3])
    have HC := Aside.mk (ptake w0 w2 H02.out B k cx st HM2.out e Bd c HA.out.1 HA.out.2.1 (fun hc => ES.out ▸ HG.out (EC.out.trans hc)))
    clear h3
    go_wp2_with fail
    refine HC.out.mono ?_
    intro r W hp
    have HP := Aside.mk hp
    have hv := hp.v
    clear hp
    subst hv
    go_wp2
    go_ret
    exact (by rw [EC.out, ES.out]; exact ⟨rfl, (HP.out.up H0.out HB.out).m⟩)
  have t3 : (e.kind == 3) = false := by simpa using h3
  by_cases h4 : e.kind = 4
  · have t4 : (e.kind == 4) = true := by rw [h4]; rfl
    have EC := Aside.mk (show code cx st e = grantC cx st e from by unfold code; rw [if_neg h3]; rw [if_pos h4])
    have ES := Aside.mk (show next cx st e = grantS st e from by unfold next; rw [if_neg h3]; rw [if_pos h4])
    have HC := Aside.mk (pgrant w0 w2 H02.out B k cx st HM2.out e Bd c HA.out.1 (fun hc => ES.out ▸ HG.out (EC.out.trans hc)))
    clear h3 h4
    go_wp2_with fail
    refine HC.out.mono ?_
    intro r W hp
    have HP := Aside.mk hp
    have hv := hp.v
    clear hp
    subst hv
    go_wp2
    go_ret
    exact (by rw [EC.out, ES.out]; exact ⟨rfl, (HP.out.up H0.out HB.out).m⟩)
  have t4 : (e.kind == 4) = false := by simpa using h4
  by_cases h5 : e.kind = 5
  · have t5 : (e.kind == 5) = true := by rw [h5]; rfl
    have EC := Aside.mk (show code cx st e = putsC cx st e from by unfold code; rw [if_neg h3]; rw [if_neg h4]; rw [if_pos h5])
    have ES := Aside.mk (show next cx st e = putsS st e from by unfold next; rw [if_neg h3]; rw [if_neg h4]; rw [if_pos h5])
    have HC := Aside.mk (pputs w0 w2 H02.out B k cx st HM2.out e Bd c HA.out.1 (Kd.F_below HA.out.2.2.1 HB.out) HA.out.2.2.2 (fun hc => ES.out ▸ HG.out (EC.out.trans hc)))
    clear h3 h4 h5
    go_wp2_with fail
    refine HC.out.mono ?_
    intro r W hp
    have HP := Aside.mk hp
    have hv := hp.v
    clear hp
    subst hv
    go_wp2
    go_ret
    exact (by rw [EC.out, ES.out]; exact ⟨rfl, (HP.out.up H0.out HB.out).m⟩)
  have t5 : (e.kind == 5) = false := by simpa using h5
  by_cases h6 : e.kind = 6
  · have t6 : (e.kind == 6) = true := by rw [h6]; rfl
    have EC := Aside.mk (show code cx st e = seenC cx st e from by unfold code; rw [if_neg h3]; rw [if_neg h4]; rw [if_neg h5]; rw [if_pos h6])
    have ES := Aside.mk (show next cx st e = seenS cx st e from by unfold next; rw [if_neg h3]; rw [if_neg h4]; rw [if_neg h5]; rw [if_pos h6])
    have HC := Aside.mk (pseen w0 w2 H02.out B k cx st HM2.out e Bd c HA.out.1 (fun hc => ES.out ▸ HG.out (EC.out.trans hc)))
    clear h3 h4 h5 h6
    go_wp2_with fail
    refine HC.out.mono ?_
    intro r W hp
    have HP := Aside.mk hp
    have hv := hp.v
    clear hp
    subst hv
    go_wp2
    go_ret
    exact (by rw [EC.out, ES.out]; exact ⟨rfl, (HP.out.up H0.out HB.out).m⟩)
  have t6 : (e.kind == 6) = false := by simpa using h6
  by_cases h7 : e.kind = 7
  · have t7 : (e.kind == 7) = true := by rw [h7]; rfl
    have EC := Aside.mk (show code cx st e = freeC cx st e from by unfold code; rw [if_neg h3]; rw [if_neg h4]; rw [if_neg h5]; rw [if_neg h6]; rw [if_pos h7])
    have ES := Aside.mk (show next cx st e = freeS cx st e from by unfold next; rw [if_neg h3]; rw [if_neg h4]; rw [if_neg h5]; rw [if_neg h6]; rw [if_pos h7])
    have HC := Aside.mk (pfree w0 w2 H02.out B k cx st HM2.out e Bd c HA.out.1 (fun hc => ES.out ▸ HG.out (EC.out.trans hc)))
    clear h3 h4 h5 h6 h7
    go_wp2_with fail
    refine HC.out.mono ?_
    intro r W hp
    have HP := Aside.mk hp
    have hv := hp.v
    clear hp
    subst hv
    go_wp2
    go_ret
    exact (by rw [EC.out, ES.out]; exact ⟨rfl, (HP.out.up H0.out HB.out).m⟩)
  have t7 : (e.kind == 7) = false := by simpa using h7
  have ES := Aside.mk (show next cx st e = st from by unfold next; rw [if_neg h3, if_neg h4, if_neg h5, if_neg h6, if_neg h7])
  by_cases h1 : e.kind = 1
  · have t1 : (e.kind == 1) = true := by rw [h1]; rfl
    have EC := Aside.mk (show code cx st e = 0 from by unfold code; rw [if_neg h3]; rw [if_neg h4]; rw [if_neg h5]; rw [if_neg h6]; rw [if_neg h7]; rw [if_pos (.inl h1)])
    clear h1 h3 h4 h5 h6 h7
    go_wp2
    go_ret
    exact (by rw [EC.out, ES.out]; exact ⟨rfl, .same HM.out HB.out H0.out⟩)
  have t1 : (e.kind == 1) = false := by simpa using h1
  by_cases h2 : e.kind = 2
  · have t2 : (e.kind == 2) = true := by rw [h2]; rfl
    have EC := Aside.mk (show code cx st e = 0 from by unfold code; rw [if_neg h3]; rw [if_neg h4]; rw [if_neg h5]; rw [if_neg h6]; rw [if_neg h7]; rw [if_pos (.inr h2)])
    clear h1 h2 h3 h4 h5 h6 h7
    go_wp2
    go_ret
    exact (by rw [EC.out, ES.out]; exact ⟨rfl, .same HM.out HB.out H0.out⟩)
  have t2 : (e.kind == 2) = false := by simpa using h2
  have EC := Aside.mk (show code cx st e = 12 from by unfold code; rw [if_neg h3]; rw [if_neg h4]; rw [if_neg h5]; rw [if_neg h6]; rw [if_neg h7]; rw [if_neg (by omega)])
  clear h1 h2 h3 h4 h5 h6 h7
  go_wp2
  go_ret
  exact (by rw [EC.out, ES.out]; exact ⟨rfl, .same HM.out HB.out H0.out⟩)
end Go.Proofs.YtnnfcdffnckoiaaDoor.Mo
/- What stands behind any events; the document's model, whole. -/
set_option linter.unusedVariables false
set_option linter.unusedSimpArgs false
set_option maxRecDepth 100000
namespace Go.Proofs.YtnnfcdffnckoiaaDoor.Mo
open Go.RowKit Go.Proofs.YtnnfcdffnckoiaaDoorW.PrintWords Go.Proofs.YtnnfcdffnckoiaaDoorW.PrintLast Go.Proofs.YtnnfcdffnckoiaaDoorW.PrintMore
open Graph (checkG Fine Gv endsI ref_ends fine_of)
structure Inv (cx : Cx) (st : St) (L : List On) (i : Nat) : Prop where
  wf : Wf cx st
  rel : Rel cx st L
  lo : Lo cx st
  tk : st.taken ≤ 64 * i
  le : L.length ≤ i
  sT : SmallT L
  sH : ∀ t, SmallH L t
  k : ∀ x ∈ L, 0 ≤ x.c ∧ x.c ≤ 500000
theorem Inv.mono {cx : Cx} {st : St} {L : List On} {i j : Nat} (h : Inv cx st L i) (hij : i ≤ j) : Inv cx st L j := { h with tk := by have := h.tk; omega, le := Nat.le_trans h.le hij }
theorem Inv.good {cx : Cx} {st : St} {L : List On} {i : Nat} (h : Inv cx st L i) (hi : i ≤ 1000) : Good cx st := by
  have hp := Lo.pre h.wf
  have ht := h.tk
  refine ⟨h.wf, by omega, fun j => ?_, ?_⟩
  · have := h.lo.g0 j; have := h.lo.gs j; have := h.lo.sp j; omega
  · have := h.lo.r0; have := h.lo.rt; omega
theorem next_taken {cx : Cx} {st : St} {e : Ev} (hc : code cx st e = 0) (c64 : cx.cap ≤ 64) : (next cx st e).taken ≤ st.taken + 64 ∧ st.taken ≤ (next cx st e).taken := by
  unfold code at hc
  unfold next
  split
  · next h3 =>
    rw [if_pos h3] at hc
    obtain ⟨_, _, hn, _⟩ := take_ok hc
    show st.taken + e.n ≤ st.taken + 64 ∧ st.taken ≤ st.taken + e.n
    omega
  repeat' split
  all_goals first | (exact ⟨by show st.taken ≤ st.taken + 64; omega, Int.le_refl _⟩)
theorem cOf_bd {cx : Cx} {st : St} {L : List On} {i : Nat} {e : Ev} (h : Inv cx st L i) (hi : i ≤ 1000) (hk : 3 ≤ e.kind) (hc : code cx st e = 0) : 0 ≤ cOf cx st e ∧ cOf cx st e ≤ 500000 := by
  have hp := Lo.pre h.wf
  have ht := h.tk
  have t0 := h.wf.t0
  unfold code at hc
  unfold cOf
  split at hc
  · next h3 =>
    obtain ⟨_, _, _, h9⟩ := take_ok hc
    rw [if_neg (by omega), h9]; omega
  next h3 =>
  split at hc
  · next h4 =>
    rw [if_pos h4]
    obtain ⟨ht', hn, _, _⟩ := grant_ok hc
    have hz1 : held st e.thread.toNat ≠ hz := fun h => hn (by rw [h]; rfl)
    obtain ⟨g1, _, g3, g4, _⟩ := wf_put h.wf (show e.thread.toNat < cx.prod by omega) hz1
    omega
  next h4 =>
  rw [if_neg h4]
  split at hc
  · next h5 =>
    obtain ⟨ht', hg, hn, h9, hd⟩ := puts_ok hc
    have hz1 : held st e.thread.toNat ≠ hz := fun h => by rw [h] at hg; cases hg
    obtain ⟨g1, g2, g3, g4, g5, g6, _⟩ := wf_put h.wf (show e.thread.toNat < cx.prod by omega) hz1
    omega
  next h5 =>
  split at hc
  · next h6 =>
    unfold seenC at hc
    split at hc
    · cases hc
    split at hc
    · cases hc
    split at hc
    · cases hc
    have := h.lo.lim (cons cx e.thread)
    have := h.lo.g0 (cons cx e.thread)
    have := h.lo.gs (cons cx e.thread)
    omega
  next h6 =>
  split at hc
  · next h7 =>
    unfold freeC at hc
    split at hc
    · cases hc
    split at hc
    · cases hc
    have := h.lo.g0 (cons cx e.thread)
    have := h.lo.sp (cons cx e.thread)
    omega
  split at hc
  · omega
  · cases hc
theorem Inv.step {cx : Cx} {st : St} {L : List On} {i : Nat} {e : Ev} (h : Inv cx st L i) (hi : i < 1000) (c64 : cx.cap ≤ 64) (hk : 3 ≤ e.kind) (hc : code cx st e = 0) : Inv cx (next cx st e) (L ++ [⟨e, cOf cx st e⟩]) (i + 1) := by
  obtain ⟨w', r'⟩ := step_keeps h.wf h.rel hk hc
  have ht := next_taken hc c64
  have htk : (next cx st e).taken ≤ 64 * ((i + 1 : Nat) : Int) := by have := h.tk; omega
  refine ⟨w', r', Lo.step h.wf h.lo hk hc, htk, by simp only [List.length_append, List.length_cons, List.length_nil]; have := h.le; omega, ?_, ?_, ?_⟩
  · refine smallT_snoc h.sT ?_
    rw [r'.tk]
    have := w'.t0
    omega
  · intro t
    refine smallH_snoc (h.sH t) (fun h5 hth => ?_)
    simp only at h5 hth
    have hc5 : putsC cx st e = 0 := by
      unfold code at hc
      rw [if_neg (by omega), if_neg (by omega), if_pos h5] at hc
      exact hc
    obtain ⟨ht', hg, hn, _, _⟩ := puts_ok hc5
    have hz1 : held st e.thread.toNat ≠ hz := fun h => by rw [h] at hg; cases hg
    obtain ⟨g1, g2, g3, g4, g5, g6, _⟩ := wf_put h.wf (show e.thread.toNat < cx.prod by omega) hz1
    have hh : holds L t = held st e.thread.toNat := by
      have := h.rel.hl e.thread.toNat (by omega)
      rw [show ((e.thread.toNat : Nat) : Int) = t by omega] at this
      exact this
    rw [hh]
    simp only
    omega
  · intro x hx
    rcases List.mem_append.1 hx with hx | hx
    · exact h.k x hx
    · rw [List.mem_singleton] at hx
      subst hx
      exact cOf_bd h (by omega) hk hc
theorem Inv.zero {cx : Cx} (c1 : 1 ≤ cx.cap) : Inv cx (st0 cx) [] 0 := by
  have hh : ∀ t, held (st0 cx) t = hz := fun t => by
    unfold held st0
    simp only [List.getD_eq_getElem?_getD, List.getElem?_replicate]
    split <;> rfl
  have hg : ∀ k, (List.replicate cx.up.length (0 : Int)).getD k 0 = 0 := fun k => by
    simp only [List.getD_eq_getElem?_getD, List.getElem?_replicate]
    split <;> rfl
  refine ⟨⟨Int.le_refl _, rfl, rfl, rfl, List.length_replicate, fun t _ => .inl (hh t), fun t _ u _ _ => .inl (hh t), List.length_replicate, List.length_replicate⟩, ⟨rfl, fun i hi => ?_, fun n _ => rfl, fun t ht => (hh t).symm, fun k hk => (hg k).symm, fun k hk => (hg k).symm, rfl, fun x hx => by cases hx⟩, ⟨fun k => ?_, fun k => ?_, fun k => ?_, Int.le_refl _, Int.le_refl _⟩, Int.le_refl _, Nat.le_refl _, ?_, ?_, fun x hx => by cases hx⟩
  · exact absurd hi (by show ¬ (i : Int) < 0; omega)
  · show 0 ≤ (List.replicate cx.up.length (0 : Int)).getD k 0; rw [hg]; exact Int.le_refl _
  · show (List.replicate cx.up.length (0 : Int)).getD k 0 ≤ (List.replicate cx.up.length (0 : Int)).getD k 0; exact Int.le_refl _
  · show (List.replicate cx.up.length (0 : Int)).getD k 0 ≤ 0; rw [hg]; exact Int.le_refl _
  · intro i hi
    have : i = 0 := by simpa using hi
    subst this
    exact ⟨Int.le_refl _, by decide⟩
  · intro t i hi
    exact absurd hi (by simp)
/-- What a document's model has that never turns. -/
structure Stat (m : Mp) (up : List (List Int)) (cx : Cx) : Prop where
  un : m.un = up.length
  uc : up.length ≤ m.uc
  sm : QGc.Sm up
  ck : checkG up = 0
  us : U64 m.sa
  cp : m.cp = cx.cap
  pr : m.pr = cx.prod
  uq : up = cx.up.map ints
  eq : endsI up = ints cx.ends
  ct : ∀ t p, cx.cnt t p = cntW m.wd m.sa t p
  c64 : 1 ≤ cx.cap ∧ cx.cap ≤ 64
  p4 : cx.prod ≤ 4
  u6 : cx.up.length ≤ 6
  ub : ∀ l ∈ cx.up, ∀ c ∈ l, c < cx.up.length
  eb : ∀ c ∈ cx.ends, c < cx.up.length
  en : cx.ends ≠ []
/-- The document's model: all that stands. -/
structure RS (base : Nat) (w : World) (m : Mp) (up : List (List Int)) (cx : Cx) (st : St) (i : Nat) : Prop where
  s : Stat m up cx
  r : RefS base w m up
  c : m.L.length ≤ m.C
  v : Inv cx st m.L i
  i : i ≤ 200
theorem RS.ok {base : Nat} {w : World} {m : Mp} {up : List (List Int)} {cx : Cx} {st : St} {i : Nat} (h : RS base w m up cx st i) : RefOk w m up cx st := by
  have g := h.v.good (Nat.le_trans h.i (by decide))
  exact { mo := ⟨h.c, h.r.ones, Nat.le_trans h.v.le (Nat.le_trans h.i (by decide)), h.v.sT, h.v.k, h.v.rel.gd, by have := h.s.pr; have := h.s.p4; omega⟩
          un := h.s.un, uc := h.s.uc, u := by have := Kd.F_now h.r.u; exact this
          sm := h.s.sm, ck := h.s.ck, us := h.s.us, cp := h.s.cp, pr := h.s.pr, uq := h.s.uq, eq := h.s.eq, ct := h.s.ct
          wf := h.v.wf, rel := h.v.rel, hs := h.v.sH, c64 := h.s.c64, p4 := h.s.p4, u6 := h.s.u6, ub := h.s.ub, eb := h.s.eb, en := h.s.en
          tb := g.tb, gb := g.gb, rb := g.rb }
theorem RS.below {base : Nat} {w w' : World} {m : Mp} {up : List (List Int)} {cx : Cx} {st : St} {i : Nat} (h : RS base w m up cx st i) (b : Below w.heap.size w w') : RS base w' m up cx st i := { h with r := h.r.below b }
end Go.Proofs.YtnnfcdffnckoiaaDoor.Mo
/- alike: the program's model has what the document's one has. -/
set_option linter.unusedVariables false
set_option linter.unusedSimpArgs false
set_option maxRecDepth 100000
namespace Go.Proofs.YtnnfcdffnckoiaaDoor.Mo
open Go.RowKit Go.Proofs.YtnnfcdffnckoiaaDoorW.PrintWords Go.Proofs.YtnnfcdffnckoiaaDoorW.PrintLast Go.Proofs.YtnnfcdffnckoiaaDoorW.PrintMore
open Graph (checkG Fine Gv endsI ref_ends fine_of)
/-- Both models, and the box of the one that came in. -/
structure AL (w0 w : World) (B : Nat) (k : Mk) (m : Mp) (up : List (List Int)) (cx : Cx) (st : St) : Prop where
  b : Below w0.heap.size w0 w
  p : MR w B k cx st
  r : RefOk w m up cx st
  x : w.heap[w0.heap.size]? = some (.cells #[.int .i64 m.vr, .int .i64 m.wd, .int .i64 m.cp, .int .i64 m.pr, .int .u64 m.sa, .slice m.U m.un m.uc, .slice m.A m.L.length m.C] 68 (0, 0))
theorem AL.step {w0 w w' : World} {B : Nat} {k : Mk} {m : Mp} {up : List (List Int)} {cx : Cx} {st : St} (h : AL w0 w B k m up cx st) (b : Below w.heap.size w w') : AL w0 w' B k m up cx st :=
  ⟨h.b.trans (b.mono h.b.size), h.p.below b, h.r.below b, blk_below h.x b⟩
/-- The answer: yes. -/
def Yes (w W : World) (r : Ending) : Prop := r = .returned (.bool true) ∧ Below w.heap.size w W
end Go.Proofs.YtnnfcdffnckoiaaDoor.Mo
