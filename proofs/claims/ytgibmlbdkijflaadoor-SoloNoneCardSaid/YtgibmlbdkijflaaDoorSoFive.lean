/- The document's ledger while it is written: claim, publish, slots, handles. -/
import Derived.Test.YtgibmlbdkijflaaDoorSoFour
import Derived.Test.YtgibmlbdkijflaaDoorSoThree
set_option linter.unusedVariables false
set_option linter.unusedSimpArgs false
set_option maxRecDepth 100000
namespace Go.Proofs.YtgibmlbdkijflaaDoor.So
open Go.RowKit Go.Proofs.YtgibmlbdkijflaaDoorW.PrintWords Go.Proofs.YtgibmlbdkijflaaDoorW.PrintLast Go.Proofs.YtgibmlbdkijflaaDoorW.PrintMore
open Ow
open Mo (Aside Cx U64 I64 ints least run cutW plusW New below_low tn1 meas1 w64 i1 wrapE)
open QGc (checkC)
open Graph (checkG Gv)
theorem und_ss : Tryd.prog.underlying 76 = some (.slice 123) := by kernel_rfl
theorem inf_s : (Tryd.prog.info? 123).map (fun i => (i.zero, i.size, i.bytes)) = some (some (.agg #[.bool false, .int .i64 0]), 2, 16) := by kernel_rfl
structure Rs (w0 w W : World) (B : Nat) (k0 k : Rk) (cx : Cx) (st0 st : Ls) : Prop where
  x : OW w0.heap.size W B 79 (rowsR k cx st)
  t : TK w0 w W (OwnB (rowsR k0 cx st0) B)
  b : W.heap[B]? = some (.cells (boxR k) 79 (0, 0))
  n : ∀ q, OwnB (rowsR k cx st) B q → OwnB (rowsR k0 cx st0) B q ∨ w.heap.size ≤ q
structure Kr (k k' : Rk) : Prop where
  h : k'.H = k.H ∧ k'.hc = k.hc
  l : k'.L = k.L ∧ k'.lc = k.lc
theorem Kr.refl (k : Rk) : Kr k k := ⟨⟨rfl, rfl⟩, ⟨rfl, rfl⟩⟩
theorem Kr.trans {a b c : Rk} (h : Kr a b) (h' : Kr b c) : Kr a c := ⟨⟨h'.h.1.trans h.h.1, h'.h.2.trans h.h.2⟩, ⟨h'.l.1.trans h.l.1, h'.l.2.trans h.l.2⟩⟩
section
variable {w0 w W W1 : World} {B : Nat} {k0 k k' : Rk} {st0 st st' : Ls} {cx : Cx} {lp : Lp} {i i' : Nat}
theorem Rs.start (h : Rm w0.heap.size w B k cx lp st i) (h0 : Below w0.heap.size w0 w) : Rs w0 w w B k k cx st st := ⟨h.x, TK.refl h0, h.b, fun _ h => .inl h⟩
theorem Rs.upd (h : Rs w0 w W B k0 k cx st0 st) (j : Nat) {x : Rw} {rs : List Rw} (hj : (rowsR k cx st)[j]? = some x) (hx : OW w0.heap.size W1 B 79 rs) (hw : ∀ q, OwnB rs B q → OwnB (rowsR k cx st) B q ∨ W.heap.size ≤ q) (hg : W.grownBy W1 x.v.ownBlock) (er : rs = rowsR k cx st') : Rs w0 w W1 B k0 k cx st0 st' := by
  subst er
  have hr := h.x.r j x hj
  exact ⟨hx, h.t.grown hg (fun q hq => Kd.R_base hr q hq) (fun q hq => h.n q (.inr ⟨j, x, hj, hq⟩)), blk_grown h.b hg (fun e => h.x.box_ne hj e.symm rfl), fun q hq => by
    rcases hw q hq with h1 | h1
    · exact h.n q h1
    · exact .inr (Nat.le_trans h.t.s h1)⟩
theorem Rs.grow (h : Rs w0 w W B k0 k cx st0 st) (j : Nat) {x x' : Rw} (hj : (rowsR k cx st)[j]? = some x) (hE : x'.d.E = [] ∧ x'.e ≠ 79) (hr : x'.d.R x'.e W1 w0.heap.size (fun _ => True) x'.v x'.xs) (hg : W.grownBy W1 x.v.ownBlock) (hn : New W x.v x'.v) (c : Nat) (eb : (boxR k).setIfInBounds c x'.v = boxR k') (er : (rowsR k cx st).set j x' = rowsR k' cx st') : Rs w0 w (W1.setCell ⟨B, c, none⟩ x'.v) B k0 k' cx st0 st' := by
  obtain ⟨hx, hw⟩ := h.x.upd j x' hj hE hr hg hn
  rw [er] at hx hw
  have hr0 := h.x.r j x hj
  have ht := h.t.grown hg (fun q hq => Kd.R_base hr0 q hq) (fun q hq => h.n q (.inr ⟨j, x, hj, hq⟩))
  have hb := blk_grown h.b hg (fun e => h.x.box_ne hj e.symm rfl)
  exact ⟨hx.setB c _, ht.set h.x.bb (.inl (.inl rfl)) c _, blk_put hb c _ eb, fun q hq => by
    rcases hw q hq with h1 | h1
    · exact h.n q h1
    · exact .inr (Nat.le_trans h.t.s h1)⟩
def RPost (w0 w : World) (B : Nat) (k : Rk) (cx : Cx) (lp : Lp) (st st' : Ls) (i' : Nat) (W : World) : Prop := ∃ k', Rm w0.heap.size W B k' cx lp st' i' ∧ TK w0 w W (OwnB (rowsR k cx st) B) ∧ (∀ q, OwnB (rowsR k' cx st') B q → OwnB (rowsR k cx st) B q ∨ w.heap.size ≤ q) ∧ Kr k k'
theorem Rs.done (hs : Rs w0 w W B k k' cx st st') (h : Rm w0.heap.size w B k cx lp st i) (ek : k'.vr = k.vr ∧ k'.wd = k.wd ∧ k'.cp = k.cp ∧ k'.pr = k.pr ∧ k'.sa = k.sa ∧ k'.U = k.U ∧ k'.un = k.un ∧ k'.uc = k.uc) (kp : Kr k k') (wf : Wf cx st' i') (hi : i' ≤ 1000) : RPost w0 w B k cx lp st st' i' W := by
  obtain ⟨e1, e2, e3, e4, e5, e6, e7, e8⟩ := ek
  refine ⟨k', { x := hs.x, b := hs.b, u := ?_, s := by rw [e1, e2, e3, e4, e5, e7, e8]; exact h.s, wf := wf, i := hi }, hs.t, hs.n, kp⟩
  rw [e6, e7]
  refine Kd.F_step h.u (fun q hq hl => hs.t.p q hl (fun ho => ?_))
  have := h.x.ge ho
  omega
theorem RPost.below (h : RPost w0 w B k cx lp st st' i' W) (b : Below W.heap.size W W1) : RPost w0 w B k cx lp st st' i' W1 := by
  obtain ⟨k', h1, h2, h3, h4⟩ := h
  exact ⟨k', h1.below b, h2.below b, h3, h4⟩
theorem RPost.up {w2 : World} (h : RPost w0 w2 B k cx lp st st' i' W) (h0 : Below w0.heap.size w0 w) (b : Below w.heap.size w w2) : RPost w0 w B k cx lp st st' i' W := by
  obtain ⟨k', h1, h2, h3, h4⟩ := h
  exact ⟨k', h1, h2.up h0 b, fun q hq => (h3 q hq).imp id (fun h => Nat.le_trans b.size h), h4⟩
theorem rowsR_e (k : Rk) (cx : Cx) (st : Ls) (tt : Nat) (ht : tt ≠ 123 ∧ tt ≠ 3 ∧ tt ≠ 81) : ∀ (i : Nat) (x : Rw), (rowsR k cx st)[i]? = some x → x.e ≠ tt := fun i x hi => by
  match i, hi with
  | 0, hi => injection hi with hi; subst hi; exact Ne.symm ht.1
  | 1, hi => injection hi with hi; subst hi; exact Ne.symm ht.2.1
  | 2, hi => injection hi with hi; subst hi; exact Ne.symm ht.2.2
  | n + 3, hi => cases hi
theorem RPost.set (h : RPost w0 w B k cx lp st st' i' W) {g t : Nat} {cs : Array Value} (hb : W.heap[g]? = some (.cells cs t (0, 0))) (hg : w.heap.size ≤ g) (h0 : w0.heap.size ≤ w.heap.size) (ht : t ≠ 79 ∧ t ≠ 123 ∧ t ≠ 3 ∧ t ≠ 81 ) (j : Nat) (u : Value) : RPost w0 w B k cx lp st st' i' (W.setCell ⟨g, j, none⟩ u) := by
  obtain ⟨k', h1, h2, h3, h4⟩ := h
  have hno : ¬ OwnB (rowsR k' cx st') B g := h1.x.no hb ht.1 (rowsR_e k' cx st' t ht.2)
  refine ⟨k', h1.move (fun q _ hq => Below.heap_setCell W ⟨g, j, none⟩ u q (by
    show q ≠ g
    intro e
    rw [e] at hq
    rcases hq with hq | hq
    · exact hno hq
    · omega)), h2.set (by omega) (.inr hg) j u, h3, h4⟩
theorem TKR.box {q t : Nat} {cs : Array Value} (ht : TK w0 w W (OwnB (rowsR k0 cx st0) B)) (h : Rm w0.heap.size w B k0 cx lp st0 i) (hb : w.heap[q]? = some (.cells cs t (0, 0))) (h1 : t ≠ 79 ∧ t ≠ 123 ∧ t ≠ 3 ∧ t ≠ 81) : W.heap[q]? = some (.cells cs t (0, 0)) :=
  (ht.p q (blk_lt hb) (h.x.no hb h1.1 (rowsR_e k0 cx st0 t h1.2))).trans hb
structure CurR (w0 w W : World) (B : Nat) (k0 k : Rk) (cx : Cx) (lp : Lp) (st0 st : Ls) (i : Nat) : Prop where
  m : Rm w0.heap.size W B k cx lp st i
  t : TK w0 w W (OwnB (rowsR k0 cx st0) B)
  n : ∀ q, OwnB (rowsR k cx st) B q → OwnB (rowsR k0 cx st0) B q ∨ w.heap.size ≤ q
  kp : Kr k0 k
theorem CurR.start (h : Rm w0.heap.size w B k cx lp st i) (h0 : Below w0.heap.size w0 w) : CurR w0 w w B k k cx lp st st i := ⟨h, TK.refl h0, fun _ h => .inl h, Kr.refl k⟩
theorem CurR.below (h : CurR w0 w W B k0 k cx lp st0 st i) (b : Below W.heap.size W W1) : CurR w0 w W1 B k0 k cx lp st0 st i := ⟨h.m.below b, h.t.below b, h.n, h.kp⟩
theorem CurR.step (h : CurR w0 w W B k0 k cx lp st0 st i) (p : RPost w0 W B k cx lp st st' i' W1) : ∃ k', CurR w0 w W1 B k0 k' cx lp st0 st' i' ∧ Kr k k' := by
  obtain ⟨k', h1, h2, h3, h4⟩ := p
  exact ⟨k', ⟨h1, h.t.trans h2 h.n, fun q hq => by
    rcases h3 q hq with h5 | h5
    · exact h.n q h5
    · exact .inr (Nat.le_trans h.t.s h5), h.kp.trans h4⟩, h4⟩
theorem CurR.post (h : CurR w0 w W B k0 k cx lp st0 st i) : RPost w0 w B k0 cx lp st0 st i W := ⟨k, h.m, h.t, h.n, h.kp⟩
theorem CurR.of {w : World} (p : RPost w0 w B k0 cx lp st0 st i W) : ∃ k, CurR w0 w W B k0 k cx lp st0 st i := by
  obtain ⟨k', h1, h2, h3, h4⟩ := p
  exact ⟨k', h1, h2, h3, h4⟩
end
theorem allR_set (st : Ls) (m : Nat) (v : Int) (hm : m < st.put.length) (hd : st.data.length = st.put.length) (st' : Ls) (hp : st'.put = st.put.set m true) (hv : st'.data = st.data.set m v) : (allR st).set m [.bool true, .int .i64 v] = allR st' := by
  unfold allR
  rw [hp, hv]
  apply List.ext_getElem
  · simp
  · intro i h1 h2
    simp only [List.getElem_set, List.getElem_zipWith]
    by_cases e : m = i
    · rw [if_pos e, if_pos e, if_pos e]
    · rw [if_neg e, if_neg e, if_neg e]
theorem allR_claim (st : Ls) (hd : st.data.length = st.put.length) (j : Nat) : allR (claimL st j) ++ [[.bool false, .int .i64 0]] = allR (claimL st (j + 1)) := by
  unfold allR claimL
  simp only
  rw [List.replicate_succ', List.replicate_succ', ← List.append_assoc, ← List.append_assoc]
  conv => rhs; rw [List.zipWith_append (by simp [hd])]
  rfl
theorem rowH_set (cx : Cx) (st st' : Ls) (t : Nat) (ht : t < cx.prod + cx.up.length) (h : ∀ u, u ≠ t → hR cx st' u = hR cx st u) : (rowH cx st).set t (hR cx st' t) = rowH cx st' := by
  unfold rowH
  apply List.ext_getElem
  · simp
  · intro i h1 h2
    simp only [List.getElem_set, List.getElem_map, List.getElem_range]
    split
    · next e => rw [e]
    · next e => rw [h i (fun e2 => e e2.symm)]
theorem claim0 (st : Ls) : claimL st 0 = st := by
  unfold claimL
  simp
set_option maxHeartbeats 8000000 in
theorem r_claim {w0 w : World} {B : Nat} {k : Rk} {cx : Cx} {lp : Lp} {st : Ls} {i : Nat} (h : Rm w0.heap.size w B k cx lp st i) (h0 : Below w0.heap.size w0 w) (n : Nat) (hn : n ≤ 64) (hi : i < 1000) :
    Calls Tryd.prog 82 #[.pointer (some ⟨B, 0, none⟩), .int .i64 (n : Int)] w fun e W => e = .returned (.int .i64 (st.put.length : Int)) ∧ RPost w0 w B k cx lp st (claimL st n) (i + 1) W := by
  have HM := Aside.mk h
  have HN := Aside.mk hn
  have HI := Aside.mk hi
  have HPN := Aside.mk (show st.put.length ≤ 64000 by have := h.wf.tk; have := h.i; omega)
  have HLD := Aside.mk h.wf.ld
  have HP := Aside.mk (show RPost w0 w B k cx lp st (claimL st 0) (i + 1) w from by
    rw [claim0]
    exact ⟨k, { h with wf := h.wf.mono (Nat.le_succ _), i := hi }, TK.refl h0, fun _ h => .inl h, Kr.refl k⟩)
  obtain ⟨c0, c1, c2, c3, c4, c5, c6, c7, c8⟩ := h.cells
  clear h h0 hn hi
  go_enter Tryd.func82, Tryd.ntmps82
  go_wp2_with fail
  clear c0 c1 c2 c3 c4 c5 c6 c7 c8
  go_loopw [6] (fun x wr => ∃ j : Nat, x = .int .i64 (j : Int) ∧ j ≤ n ∧ Mo.Aside (RPost w0 w B k cx lp st (claimL st j) (i + 1) wr)) (fun x _ => n - (intOf x).toNat)
  case atStart => exact ⟨0, rfl, Nat.zero_le _, HP⟩
  case round =>
    clear HP
    obtain ⟨j, rfl, hj, HP⟩ := hrel
    by_cases hlt : j < n
    rotate_left
    · obtain rfl : j = n := by omega
      have t1 : decide ((j : Int) < (j : Int)) = false := decide_eq_false (by omega)
      have t2 : decide (j < j) = false := decide_eq_false (by omega)
      clear hj hlt
      go_wp2
      go_ret
      exact ⟨rfl, HP.out⟩
    have HJ := Aside.mk hlt
    have t1 : decide ((j : Int) < (n : Int)) = true := decide_eq_true (by omega)
    have t2 : decide (j < n) = true := decide_eq_true hlt
    have t3 : (j : Int) < (n : Int) := by omega
    have ej := i1 (show j < 4611686018427387904 by have := HN.out; omega)
    obtain ⟨kk, hck⟩ := CurR.of HP.out
    have HCK := Aside.mk hck
    have HRS := Aside.mk (Rs.start hck.m hck.t.b)
    obtain ⟨n0, _, _⟩ := hck.m.ns
    have HLN := Aside.mk (show (claimL st j).put.length = st.put.length + j by simp [claimL])
    have HAL := Aside.mk (show (allR (claimL st j)).length = st.put.length + j by rw [allR_len _ hck.m.wf.ld]; exact HLN.out)
    have c6 : wr.cell? ⟨B, 6, none⟩ = some (.slice kk.A kk.an kk.ac) := (blk_cell hck.m.b 6).trans rfl
    have fb := blk_frozen hck.m.b 6
    clear hck HP hj hlt n0
    go_upto_region 4 with ((with_reducible refine gate_builtin (b := .append) (xs := #[.tmp 21, .tmp 23]) rfl ?_); at_builtin; go_must (refine Kd.R_append (Kd.raw 2) (w0 := w0) w0.heap.size rfl (.tmp 21) (.tmp 23) 76 123 (.agg #[.bool false, .int .i64 0]) 16 rfl und_ss inf_s rfl (by decide) (by omega) (.slice kk.A kk.an kk.ac) (allR (claimL st j)) [.bool false, .int .i64 0] [.bool false, .int .i64 0] (fun _ => True) (fun _ => False) rfl rfl ?aP (fun _ hk => hk.elim) ?aF ?aO ?aB ?aS ?aL ?_; (case aP => exact ⟨rfl, rfl, fun u hu => by simp only [List.mem_cons, List.not_mem_nil, or_false] at hu; rcases hu with rfl | rfl <;> rfl⟩); (case aB => exact HCK.out.t.b); (case aF => exact (fun _ _ => trivial)); (case aO => exact HRS.out.x.r 0 _ rfl); (case aS => exact HCK.out.t.b.size); (case aL => have := HAL.out; have := HPN.out; have := HN.out; have := HJ.out; omega); intro v2 w2 hr hb2 hg hat; obtain ⟨A2, C2, ev⟩ := Kd.R_slice hr; obtain ⟨m2, hm2⟩ : ∃ m2, m2 = (allR (claimL st j) ++ [([.bool false, .int .i64 0] : List Value)]).length := ⟨_, rfl⟩; rw [← hm2] at ev; subst ev; have HHM := Aside.mk hm2; clear hm2; have HS2 := Aside.mk (HRS.out.grow (k' := { kk with A := A2, an := m2, ac := C2 }) (st' := claimL st (j + 1)) 0 (x' := ⟨Kd.raw 2, 123, .slice A2 m2 C2, allR (claimL st j) ++ [[.bool false, .int .i64 0]]⟩) rfl ⟨rfl, show (123 : Nat) ≠ 79 by decide⟩ hr hg hat 6 rfl (by rw [allR_claim st HLD.out j]; rfl)); have hbb := blk_grown HRS.out.b hg (fun e => HRS.out.x.box_ne (i := 0) rfl e.symm rfl); have c6 : w2.cell? ⟨B, 6, none⟩ = some (.slice kk.A kk.an kk.ac) := (blk_cell hbb 6).trans rfl; have fb := blk_frozen hbb 6; clear hr hb2 hg hat HRS hbb))
    clear c6 fb t1 t2 t3
    generalize w2.setCell ⟨B, 6, none⟩ (.slice A2 m2 C2) = w3 at *
    have HR := Aside.mk (show RPost w0 w B k cx lp st (claimL st (j + 1)) (i + 1) w3 from by
      have hd := HS2.out.done (i' := i + 1) HCK.out.m ⟨rfl, rfl, rfl, rfl, rfl, rfl, rfl, rfl⟩ ⟨⟨rfl, rfl⟩, ⟨rfl, rfl⟩⟩ (HM.out.wf.claim (j + 1) (by have := HN.out; have := HJ.out; omega)) HI.out
      obtain ⟨k', hc, _⟩ := HCK.out.step hd
      exact hc.post)
    clear HS2 HCK
    go_wp2_with fail
    go_roundw
    case rel => exact ⟨j + 1, by first | rfl | simp, HJ.out, HR⟩
    case measure =>
      simp only [intOf, tn1, Int.toNat_natCast]
      exact meas1 HJ.out
theorem Rm.setSpot {w0 w : World} {B : Nat} {k : Rk} {cx : Cx} {lp : Lp} {st : Ls} {i : Nat} (h : Rm w0.heap.size w B k cx lp st i) (h0 : Below w0.heap.size w0 w) {q : Nat} (eA : k.A = some ⟨q, 0, none⟩) (m : Nat) (hm : m < st.put.length) (v : Int) :
    ∃ W, W = ((w.setCell ⟨q, m * 2, none⟩ (.bool true)).setCell ⟨q, m * 2 + 1, none⟩ (.int .i64 v)) ∧ RPost w0 w B k cx lp st ⟨st.put.set m true, st.data.set m v, st.slots, st.held, st.gate, st.saw⟩ i W := by
  refine ⟨_, rfl, ?_⟩
  have hs := h.x.setRaw 0 eA rfl m (by rw [allR_len st h.wf.ld]; exact hm) [.bool true, .int .i64 v] rfl ⟨rfl, rfl, fun u hu => by
    simp only [List.mem_cons, List.not_mem_nil, or_false] at hu
    rcases hu with rfl | rfl <;> rfl⟩
  have hu := (Rs.start h h0).upd (st' := ⟨st.put.set m true, st.data.set m v, st.slots, st.held, st.gate, st.saw⟩) 0 rfl hs.1 hs.2.1 (by show w.grownBy _ (Value.slice k.A k.an k.ac).ownBlock; rw [eA]; exact hs.2.2) (by
    unfold rowsR
    rw [← allR_set st m v hm h.wf.ld ⟨st.put.set m true, st.data.set m v, st.slots, st.held, st.gate, st.saw⟩ rfl rfl]
    rfl)
  exact hu.done h ⟨rfl, rfl, rfl, rfl, rfl, rfl, rfl, rfl⟩ (Kr.refl k) (h.wf.puts (by simp) (by simp) rfl rfl rfl rfl (fun q hq => by
    show (st.put.set m true).getD q false = true
    rw [getD_set]
    split
    · rfl
    · exact hq)) h.i
theorem Rm.setSlot {w0 w : World} {B : Nat} {k : Rk} {cx : Cx} {lp : Lp} {st : Ls} {i : Nat} (h : Rm w0.heap.size w B k cx lp st i) (h0 : Below w0.heap.size w0 w) {q : Nat} (eL : k.L = some ⟨q, 0, none⟩) (s : Nat) (v : Int) :
    ∃ W, W = w.setCell ⟨q, s, none⟩ (.int .i64 v) ∧ RPost w0 w B k cx lp st { st with slots := st.slots.set s v } i W := by
  refine ⟨_, rfl, ?_⟩
  have hs := h.x.setInt 1 eL rfl s v
  have hu := (Rs.start h h0).upd (st' := { st with slots := st.slots.set s v }) 1 rfl hs.1 hs.2.1 (by show w.grownBy _ (Value.slice k.L k.ln k.lc).ownBlock; rw [eL]; exact hs.2.2) rfl
  exact hu.done h ⟨rfl, rfl, rfl, rfl, rfl, rfl, rfl, rfl⟩ (Kr.refl k) (h.wf.puts rfl rfl (by simp) rfl rfl rfl (fun _ h => h)) h.i
theorem Rm.setHand {w0 w : World} {B : Nat} {k : Rk} {cx : Cx} {lp : Lp} {st : Ls} {i i' : Nat} (h : Rm w0.heap.size w B k cx lp st i) (h0 : Below w0.heap.size w0 w) {q : Nat} (eH : k.H = some ⟨q, 0, none⟩) (t : Nat) (ht : t < cx.prod + cx.up.length) (st' : Ls) (wf : Wf cx st' i') (hi : i' ≤ 1000) (e1 : st'.put = st.put ∧ st'.data = st.data ∧ st'.slots = st.slots) (e2 : ∀ u, u ≠ t → hR cx st' u = hR cx st u) {v0 v1 v2 v3 v4 v5 v6 : Value} (ev : hR cx st' t = [v0, v1, v2, v3, v4, v5, v6]) (hz : ∀ u ∈ hR cx st' t, u.oneCell' = true) :
    ∃ W, W = (((((((w.setCell ⟨q, t * 7, none⟩ v0).setCell ⟨q, t * 7 + 1, none⟩ v1).setCell ⟨q, t * 7 + 2, none⟩ v2).setCell ⟨q, t * 7 + 3, none⟩ v3).setCell ⟨q, t * 7 + 4, none⟩ v4).setCell ⟨q, t * 7 + 5, none⟩ v5).setCell ⟨q, t * 7 + 6, none⟩ v6) ∧ RPost w0 w B k cx lp st st' i' W := by
  refine ⟨_, rfl, ?_⟩
  have hs := h.x.setRaw 2 eH rfl t (by unfold rowH; rw [List.length_map, List.length_range]; exact ht) (hR cx st' t) (by rw [ev]; rfl) ⟨rfl, by rw [ev]; rfl, hz⟩
  have hu := (Rs.start h h0).upd (st' := st') 2 rfl hs.1 hs.2.1 (by show w.grownBy _ (Value.slice k.H k.hn k.hc).ownBlock; rw [eH]; exact hs.2.2) (by
    have ea : allR st' = allR st := by unfold allR; rw [e1.1, e1.2.1]
    unfold rowsR
    rw [← rowH_set cx st st' t ht e2, ea, e1.2.2]
    rfl)
  rw [ev] at hu
  exact hu.done h ⟨rfl, rfl, rfl, rfl, rfl, rfl, rfl, rfl⟩ (Kr.refl k) wf hi
set_option maxHeartbeats 16000000 in
theorem r_publish {w0 w : World} {B : Nat} {k : Rk} {cx : Cx} {lp : Lp} {st : Ls} {i : Nat} (h : Rm w0.heap.size w B k cx lp st i) (h0 : Below w0.heap.size w0 w) (f n : Nat) (hn : f + n ≤ st.put.length) :
    Calls Tryd.prog 85 #[.pointer (some ⟨B, 0, none⟩), .int .i64 (f : Int), .int .i64 (n : Int)] w fun e W => e = .returned (.tuple #[]) ∧ RPost w0 w B k cx lp st (pubN lp st f n) i W := by
  have H0 := Aside.mk h0
  have HN := Aside.mk hn
  have HPN := Aside.mk (show st.put.length ≤ 64000 by have := h.wf.tk; have := h.i; omega)
  have HP := Aside.mk (show RPost w0 w B k cx lp st (pubN lp st f 0) i w from ⟨k, h, TK.refl h0, fun _ h => .inl h, Kr.refl k⟩)
  have ew : wrap64 ((f : Int) + (n : Int)) = (f : Int) + (n : Int) := w64 (by have := HPN.out; omega)
  have ew2 : IntKind.i64.wrap ((f : Int) + (n : Int)) = (f : Int) + (n : Int) := by rw [wrapE]; exact ew
  clear h h0 hn
  go_enter Tryd.func85, Tryd.ntmps85
  go_wp2_with fail
  go_loopw [6] (fun x wr => ∃ j : Nat, x = .int .i64 ((f + j : Nat) : Int) ∧ j ≤ n ∧ Mo.Aside (RPost w0 w B k cx lp st (pubN lp st f j) i wr)) (fun x _ => f + n - (intOf x).toNat)
  case atStart => exact ⟨0, rfl, Nat.zero_le _, HP⟩
  case round =>
    clear HP
    obtain ⟨j, rfl, hj, HP⟩ := hrel
    by_cases hlt : j < n
    rotate_left
    · obtain rfl : j = n := by omega
      obtain ⟨fj, hfj⟩ : ∃ m, m = f + j := ⟨_, rfl⟩
      have t1 : decide ((fj : Int) < (f : Int) + (j : Int)) = false := decide_eq_false (by omega)
      have t2 : decide (fj < f + j) = false := decide_eq_false (by omega)
      rw [← hfj]
      clear hj hlt hfj
      go_wp2
      exact bodyPost_end (results_none rfl _ _ _) rfl ⟨rfl, HP.out⟩
    have HJ := Aside.mk hlt
    have HG := Aside.mk (pub_get (lp := lp) (st := st) (f := f) (n := j))
    obtain ⟨a1, a2, a3, a4, a5, a6, a7⟩ := pub_put lp st f j
    obtain ⟨st', hst⟩ : ∃ s, s = pubN lp st f j := ⟨_, rfl⟩
    rw [← hst] at HP a1 a2 a3 a4 a5 a6 HG
    have HLEN := Aside.mk (And.intro a1 (And.intro a2 a3))
    clear hst a1 a2 a3 a4 a5 a6 a7 hj hlt
    obtain ⟨m, hm⟩ : ∃ m, m = f + j := ⟨_, rfl⟩
    have HMB := Aside.mk (show m < st'.put.length by have := HJ.out; have := HN.out; have := HLEN.out.1; omega)
    have t1 : decide ((m : Int) < (f : Int) + (n : Int)) = true := decide_eq_true (by have := HJ.out; omega)
    have t2 : decide (m < f + n) = true := decide_eq_true (by have := HJ.out; omega)
    have t3 : (m : Int) < (f : Int) + (n : Int) := by have := HJ.out; omega
    rw [← hm] at HG ⊢
    have HME := Aside.mk hm
    have em := i1 (show m < 4611686018427387904 by have := HMB.out; have := HPN.out; have := HLEN.out.1; omega)
    obtain ⟨kk, hck⟩ := CurR.of HP.out
    have HCK := Aside.mk hck
    clear hck HP hm
    go_wp2_with fail
    refine (r_slot HCK.out.m (m : Int)).mono ?_
    rintro r wa ⟨rfl, hb⟩
    replace HCK := Aside.mk (HCK.out.below hb)
    clear hb t1 t2 t3
    have HSL := Aside.mk (show lp.sl (m : Int) < st'.slots.length by have h1 := HCK.out.m.s.ls (m : Int); have h2 := HCK.out.m.s.lb (m : Int); have h3 := HCK.out.m.wf.ll; rw [HCK.out.m.s.kcp] at h1 h2; omega)
    generalize hs : lp.sl (m : Int) = s at *
    clear hs
    go_upto_region 4 with (fail)
    replace HCK := Aside.mk (HCK.out.below (below_drew1 (Below.refl _ _)))
    obtain ⟨qp, eP, _, dp, dd, fp⟩ := HCK.out.m.all m HMB.out
    obtain ⟨ql, eL, _, dl, fl⟩ := HCK.out.m.slot s HSL.out
    obtain ⟨_, _, _, _, _, _, d6, d7, _⟩ := HCK.out.m.cells
    rw [eP] at d6
    rw [eL] at d7
    have g1 : decide ((m : Int) < (st'.put.length : Int)) = true := decide_eq_true (by have := HMB.out; omega)
    have g2 : (m : Int) < (st'.put.length : Int) := by have := HMB.out; omega
    have g3 : decide (m < st'.put.length) = true := decide_eq_true HMB.out
    have s1 : decide ((s : Int) < (st'.slots.length : Int)) = true := decide_eq_true (by have := HSL.out; omega)
    have s2 : (s : Int) < (st'.slots.length : Int) := by have := HSL.out; omega
    have s3 : decide (s < st'.slots.length) = true := decide_eq_true HSL.out
    have HEP := Aside.mk eP
    have f0 := fp (m * 2)
    have f1 := fp (m * 2 + 1)
    rw [← HLEN.out.2.2] at HG
    generalize hsv : st'.slots.getD s 0 = sv at *
    clear eP eL fl fp hsv
    refine start_ (n := 15) (S := fun w' => w'.cell? ⟨B, 6, none⟩ = some (.slice (some ⟨qp, 0, none⟩) st'.put.length kk.ac) ∧ w'.cell? ⟨B, 7, none⟩ = some (.slice (some ⟨ql, 0, none⟩) st'.slots.length kk.lc) ∧ w'.cell? ⟨ql, s, none⟩ = some (.int .i64 sv) ∧ True) (ds := [14]) (bm 15 0) (by kernel_rfl) rfl rfl ⟨d6, d7, dl, trivial⟩ (fun hHeld => ?_)
    generalize wa.drew = wd at *
    refine pu_ 0 (bm 15 1) ?_
    refine pu_ 1 (bm 15 3) ?_
    refine pu_ 2 (bm 15 7) ?_
    refine ta_ 3 (bm 15 15) hHeld ?_
    refine pu_ 4 (bm 15 31) ?_
    refine pu_ 5 (bm 15 63) ?_
    refine pu_ 6 (bm 15 127) ?_
    refine pu_ 7 (bm 15 255) ?_
    refine ta_ 8 (bm 15 511) hHeld ?_
    refine pu_ 9 (bm 15 1023) ?_
    refine pu_ 10 (bm 15 2047) ?_
    refine ta_ 11 (bm 15 4095) hHeld ?_
    refine pu_ 12 (bm 15 8191) ?_
    refine pu_ 13 (bm 15 16383) ?_
    refine last_ (i := 14) (N := none) (bm 15 32767) rfl rfl (by kernel_rfl) (by decide) (fun K hK => ?_)
    refine skip_ (w1 := ?_) (by rfl) rfl ?_ ?_
    rotate_left
    · go_simp
      rfl
    refine hK.out _ _ ?_
    clear hK K
    refine done_ (by kernel_rfl) ?_
    clear hHeld
    obtain ⟨w5, hw5, hP5⟩ := HCK.out.m.setSpot HCK.out.t.b HEP.out m HMB.out sv
    rw [← hw5]
    clear hw5 d6 d7 dl dp dd f0 f1 s1 s2 s3 g1 g2 g3
    have HR := Aside.mk (show RPost w0 w B k cx lp st (pubN lp st f (j + 1)) i w5 from by
      rw [HG.out]
      obtain ⟨k', hc, _⟩ := HCK.out.step hP5
      exact hc.post)
    clear hP5 HCK HG
    go_wp2_with fail
    go_roundw
    case rel => exact ⟨j + 1, by rw [HME.out]; first | rfl | simp [Nat.add_assoc] | (exact congrArg (Value.int .i64) (by omega)), HJ.out, HR⟩
    case measure =>
      simp only [intOf, tn1, Int.toNat_natCast]
      have := HJ.out
      have := HME.out
      omega
end Go.Proofs.YtgibmlbdkijflaaDoor.So
set_option linter.unusedVariables false
set_option linter.unusedSimpArgs false
set_option maxRecDepth 100000
namespace Go.Proofs.YtgibmlbdkijflaaDoor.So
open Go.RowKit Go.Proofs.YtgibmlbdkijflaaDoorW.PrintWords Go.Proofs.YtgibmlbdkijflaaDoorW.PrintLast Go.Proofs.YtgibmlbdkijflaaDoorW.PrintMore
open Ow
open Mo (Aside Cx U64 I64 ints least run cutW plusW New below_low tn1 meas1 w64 i1 wrapE)
open QGc (checkC)
open Graph (checkG Gv)
open Mo (Ev)
section
variable {w0 w W W1 : World} {B : Nat} {k0 k : Rk} {cx : Cx} {lp : Lp} {st0 st st' : Ls} {i i' : Nat}
theorem RPost.set7 (h : RPost w0 w B k cx lp st st' i' W) {g : Nat} {a0 a1 a2 a3 a4 a5 a6 : Value} (hb : W.heap[g]? = some (.cells #[a0, a1, a2, a3, a4, a5, a6] 44 (0, 0))) (hg : w.heap.size ≤ g) (h0 : w0.heap.size ≤ w.heap.size) (v0 v1 v2 v3 v4 v5 v6 : Value) :
    ∃ W', W' = (((((((W.setCell ⟨g, 0, none⟩ v0).setCell ⟨g, 1, none⟩ v1).setCell ⟨g, 2, none⟩ v2).setCell ⟨g, 3, none⟩ v3).setCell ⟨g, 4, none⟩ v4).setCell ⟨g, 5, none⟩ v5).setCell ⟨g, 6, none⟩ v6) ∧ RPost w0 w B k cx lp st st' i' W' ∧ W'.heap[g]? = some (.cells #[v0, v1, v2, v3, v4, v5, v6] 44 (0, 0)) := by
  have ht : 44 ≠ 79 ∧ 44 ≠ 123 ∧ 44 ≠ 3 ∧ 44 ≠ 81 := by decide
  have k0 := blk_put (cs' := #[v0, a1, a2, a3, a4, a5, a6]) hb 0 v0 rfl
  have k1 := blk_put (cs' := #[v0, v1, a2, a3, a4, a5, a6]) k0 1 v1 rfl
  have k2 := blk_put (cs' := #[v0, v1, v2, a3, a4, a5, a6]) k1 2 v2 rfl
  have k3 := blk_put (cs' := #[v0, v1, v2, v3, a4, a5, a6]) k2 3 v3 rfl
  have k4 := blk_put (cs' := #[v0, v1, v2, v3, v4, a5, a6]) k3 4 v4 rfl
  have k5 := blk_put (cs' := #[v0, v1, v2, v3, v4, v5, a6]) k4 5 v5 rfl
  have k6 := blk_put (cs' := #[v0, v1, v2, v3, v4, v5, v6]) k5 6 v6 rfl
  exact ⟨_, rfl, (((((((h.set hb hg h0 ht 0 v0).set k0 hg h0 ht 1 v1).set k1 hg h0 ht 2 v2).set k2 hg h0 ht 3 v3).set k3 hg h0 ht 4 v4).set k4 hg h0 ht 5 v5).set k5 hg h0 ht 6 v6), k6⟩
structure EPostR (w0 w : World) (B : Nat) (k : Rk) (cx : Cx) (lp : Lp) (st st' : Ls) (i' : Nat) (e : Ev) (r : Ending) (W : World) : Prop where mk ::
  out : ∃ A C, r = .returned (.agg (evV e A C)) ∧ e.data.length ≤ C ∧ Kd.F (Kd.int .i64) W (fun q => w.heap.size ≤ q) A e.data.length e.data ∧ RPost w0 w B k cx lp st st' i' W
end
theorem hR_hold (cx : Cx) (st st' : Ls) (t : Nat) (v : Hl) (hh : st'.held = st.held.set t v) (hg : st'.gate = st.gate) (hs : st'.saw = st.saw) : ∀ u, u ≠ t → hR cx st' u = hR cx st u := fun u hu => by
  have e : heldL st' u = heldL st u := by
    unfold heldL
    rw [hh, getD_set, if_neg (fun h => hu h.1.symm)]
  unfold hR
  rw [e, hg, hs]
theorem hR_held (cx : Cx) (st st' : Ls) (t : Nat) (v : Hl) (ht : t < cx.prod) (hl : st.held.length = cx.prod) (hh : st'.held = st.held.set t v) : hR cx st' t = [.int .i64 cx.cap, .bool true, .bool (decide (0 < v.n)), .int .u64 v.f, .int .i64 v.n, .int .i64 0, .int .i64 0] := by
  have e : heldL st' t = v := by
    unfold heldL
    rw [hh, getD_set, if_pos ⟨rfl, by rw [hl]; exact ht⟩]
  unfold hR
  rw [if_pos ht, e]
theorem TKR.box2 {w0 w W : World} {B q t : Nat} {k0 : Rk} {cx : Cx} {st0 : Ls} {cs : Array Value} (ht : TK w0 w W (OwnB (rowsR k0 cx st0) B)) (hb : w.heap[q]? = some (.cells cs t (0, 0))) (hn : ¬ OwnB (rowsR k0 cx st0) B q) : W.heap[q]? = some (.cells cs t (0, 0)) := (ht.p q (blk_lt hb) hn).trans hb
theorem one7 {cap f n : Int} {a b : Bool} {g u : Int} : ∀ x ∈ ([.int .i64 cap, .bool a, .bool b, .int .u64 f, .int .i64 n, .int .i64 g, .int .i64 u] : List Value), x.oneCell' = true := fun x hx => by
  simp only [List.mem_cons, List.not_mem_nil, or_false] at hx
  rcases hx with rfl | rfl | rfl | rfl | rfl | rfl | rfl <;> rfl
set_option maxHeartbeats 8000000 in
theorem r_prod1 {w0 w : World} {B : Nat} {k : Rk} {cx : Cx} {lp : Lp} {st : Ls} {i : Nat} (h : Rm w0.heap.size w B k cx lp st i) (h0 : Below w0.heap.size w0 w) (hi : i < 1000) (t : Nat) (ht : t < cx.prod) (op cn : Int) (cd : List Int) (hop : op = 1) (hc : codeL cx st t ⟨op, cn, cd⟩ = 0) (A : Option Addr) (C : Nat) :
    Calls Tryd.prog 47 #[.pointer (some ⟨B, 0, none⟩), .int .i64 (t : Int), .agg #[.int .i64 op, .int .i64 cn, .slice A cd.length C]] w fun r W => EPostR w0 w B k cx lp st (produceL lp st t ⟨op, cn, cd⟩).1 (i + 1) (produceL lp st t ⟨op, cn, cd⟩).2 r W := by
  subst hop
  obtain ⟨n, rfl⟩ : ∃ n : Nat, cn = n := ⟨cn.toNat, by
    rcases code_prod ht hc with ⟨_, h2, _⟩ | ⟨h2, _⟩
    · have : szC ⟨1, cn, cd⟩ = cn := rfl
      omega
    · cases h2⟩
  have hb0 := below_alloc (below_alloc (Below.refl w.heap.size w) (.cells #[.int .i64 1, .int .i64 (n : Int), .slice A cd.length C] 39)) (.cells #[.int .i64 0, .int .i64 0, .int .i64 0, .int .i64 0, .int .u64 0, .int .i64 0, .slice none 0 0] 44)
  have HX := blk_alloc (heap_alloc_new w (.cells #[.int .i64 1, .int .i64 (n : Int), .slice A cd.length C] 39)) (.cells #[.int .i64 0, .int .i64 0, .int .i64 0, .int .i64 0, .int .u64 0, .int .i64 0, .slice none 0 0] 44)
  have HE := heap_alloc_new (w.alloc (.cells #[.int .i64 1, .int .i64 (n : Int), .slice A cd.length C] 39)) (.cells #[.int .i64 0, .int .i64 0, .int .i64 0, .int .i64 0, .int .u64 0, .int .i64 0, .slice none 0 0] 44)
  rw [World.size_alloc] at HE
  have HL := Aside.mk h
  have HB0 := Aside.mk hb0
  have H00 := Aside.mk h0
  have HI := Aside.mk hi
  have HT := Aside.mk ht
  have HTT := Aside.mk (show t < cx.prod + cx.up.length by omega)
  have hcp := code_prod ht hc
  have HN := Aside.mk (show 1 ≤ n ∧ (n : Int) ≤ cx.cap ∧ n ≤ 64 by
    rcases hcp with ⟨_, h2, h3, _⟩ | ⟨h2, _⟩
    · have e : szC ⟨1, (n : Int), cd⟩ = n := rfl
      have := h.s.c64
      omega
    · cases h2)
  have hl0 : heldL st t = hl0 := by
    rcases h.wf.hw t ht with e | e
    · exact e
    · rcases hcp with ⟨_, _, _, h4⟩ | ⟨h2, _⟩
      · omega
      · cases h2
  have HHR := Aside.mk (show hR cx st t = [.int .i64 cx.cap, .bool true, .bool false, .int .u64 0, .int .i64 0, .int .i64 0, .int .i64 0] by unfold hR; rw [if_pos ht, hl0]; rfl)
  have HEQ := Aside.mk (show produceL lp st t ⟨1, (n : Int), cd⟩ = ({ claimL st n with held := st.held.set t ⟨st.put.length, n⟩ }, { ev0 with pos := lp.pos st.put.length, n := n }) from rfl)
  clear hc hcp hl0
  have HM1 := Aside.mk (h.below hb0)
  have HY := Aside.mk HX
  have HEV := Aside.mk HE
  obtain ⟨nn, hnn⟩ : ∃ nn, nn = cx.prod + cx.up.length := ⟨_, rfl⟩
  have HNN := Aside.mk hnn
  have g1 : decide ((t : Int) < (nn : Int)) = true := decide_eq_true (by omega)
  have g2 : (t : Int) < (nn : Int) := by omega
  have g3 : decide (t < nn) = true := decide_eq_true (by omega)
  clear hb0 h h0 hi ht HX HE hnn
  go_enter Tryd.func47, Tryd.ntmps47
  go_upto_region 1 with (fail)
  have HSZ := Aside.mk (show w.heap.size + 1 < ((w.alloc (.cells #[.int .i64 1, .int .i64 (n : Int), .slice A cd.length C] 39)).alloc (.cells #[.int .i64 0, .int .i64 0, .int .i64 0, .int .i64 0, .int .u64 0, .int .i64 0, .slice none 0 0] 44)).heap.size from blk_lt HEV.out)
  have HSZ2 := Aside.mk (show ((w.alloc (.cells #[.int .i64 1, .int .i64 (n : Int), .slice A cd.length C] 39)).alloc (.cells #[.int .i64 0, .int .i64 0, .int .i64 0, .int .i64 0, .int .u64 0, .int .i64 0, .slice none 0 0] 44)).heap.size = w.heap.size + 2 by simp)
  generalize (w.alloc (.cells #[.int .i64 1, .int .i64 (n : Int), .slice A cd.length C] 39)).alloc (.cells #[.int .i64 0, .int .i64 0, .int .i64 0, .int .i64 0, .int .u64 0, .int .i64 0, .slice none 0 0] 44) = w1 at *
  obtain ⟨q, eH, _, hh, _⟩ := HM1.out.hand t HTT.out
  rw [HHR.out] at hh
  have HQ := Aside.mk eH
  have c8 := HM1.out.cells.2.2.2.2.2.2.2.2
  rw [eH, ← HNN.out] at c8
  have a0 := hh 0 _ rfl
  rw [Nat.add_zero] at a0
  have a1 := hh 1 _ rfl
  have a2 := hh 2 _ rfl
  have a3 := hh 3 _ rfl
  have a4 := hh 4 _ rfl
  have a5 := hh 5 _ rfl
  have a6 := hh 6 _ rfl
  clear hh eH
  go_upto_region 2 with (fail)
  clear a0 a1 a2 a3 a4 a5 a6 c8
  have hbA := below_alloc (Below.refl w1.heap.size w1) (.cells #[.int .i64 cx.cap, .bool true, .bool false, .int .u64 0, .int .i64 0, .int .i64 0, .int .i64 0] 81)
  have HHB := Aside.mk (heap_alloc_new w1 (.cells #[.int .i64 cx.cap, .bool true, .bool false, .int .u64 0, .int .i64 0, .int .i64 0, .int .i64 0] 81))
  have HM2 := Aside.mk (HM1.out.below hbA)
  replace HY := Aside.mk (blk_below HY.out hbA)
  replace HEV := Aside.mk (blk_below HEV.out hbA)
  replace HB0 := Aside.mk (HB0.out.trans (hbA.mono HB0.out.size))
  clear hbA
  have HNO := Aside.mk (show ¬ OwnB (rowsR k cx st) B w1.heap.size from fun ho => absurd (HM1.out.x.lt ho) (Nat.lt_irrefl _))
  generalize hgh : w1.heap.size = gh at *
  have HGH := Aside.mk HSZ2.out
  generalize w1.alloc (.cells #[.int .i64 cx.cap, .bool true, .bool false, .int .u64 0, .int .i64 0, .int .i64 0, .int .i64 0] 81) = w2 at *
  clear hgh HSZ2 HSZ HM1
  have HC := Aside.mk (CurR.start HM2.out (below_low HB0.out H00.out))
  obtain ⟨y0, y1, y2⟩ := cell3 HY.out
  go_wp2_with fail
  refine (r_claim HC.out.m HC.out.t.b n HN.out.2.2 HI.out).mono ?_
  rintro r w3 ⟨rfl, hb⟩
  obtain ⟨k3, hc3, hk3⟩ := HC.out.step hb
  have HC3 := Aside.mk hc3
  have HK3 := Aside.mk hk3
  clear hb hc3 hk3 HC y0 y1 y2
  have HY3 := Aside.mk (TKR.box HC3.out.t HM2.out HY.out (by decide))
  have HB3 := Aside.mk (TKR.box2 HC3.out.t HHB.out HNO.out)
  have c8 := HC3.out.m.cells.2.2.2.2.2.2.2.2
  rw [HK3.out.h.1, HK3.out.h.2, HQ.out, ← HNN.out] at c8
  have HD8 := Aside.mk c8
  have eu : IntKind.u64.wrap (st.put.length : Int) = st.put.length := by have := HC3.out.m.wf.tk; have := HC3.out.m.i; have := HM2.out.wf.tk; have := HM2.out.i; simp only [IntKind.wrap, IntKind.signed, IntKind.bits]; first | omega | (simp; omega)
  clear c8
  go_upto_region 4 with (fail)
  refine start_ (n := 16) (S := fun w' => w'.cell? ⟨B, 8, none⟩ = some (.slice (some ⟨q, 0, none⟩) nn k.hc) ∧ w'.cell? ⟨gh, 0, none⟩ = some (.int .i64 cx.cap) ∧ w'.cell? ⟨gh, 1, none⟩ = some (.bool true) ∧ w'.cell? ⟨gh, 2, none⟩ = some (.bool false) ∧ w'.cell? ⟨gh, 3, none⟩ = some (.int .u64 0) ∧ w'.cell? ⟨gh, 4, none⟩ = some (.int .i64 0) ∧ w'.cell? ⟨gh, 5, none⟩ = some (.int .i64 0) ∧ w'.cell? ⟨gh, 6, none⟩ = some (.int .i64 0) ∧ w'.cell? ⟨w.heap.size, 1, none⟩ = some (.int .i64 (n : Int)) ∧ True) (ds := [15]) (bm 16 0) (by kernel_rfl) rfl rfl ⟨((below_drew1 (Below.refl _ _)).cell (World.block_lt_of_cell? _ _ HD8.out)).trans HD8.out, (blk_cell (blk_drew HB3.out) 0).trans rfl, (blk_cell (blk_drew HB3.out) 1).trans rfl, (blk_cell (blk_drew HB3.out) 2).trans rfl, (blk_cell (blk_drew HB3.out) 3).trans rfl, (blk_cell (blk_drew HB3.out) 4).trans rfl, (blk_cell (blk_drew HB3.out) 5).trans rfl, (blk_cell (blk_drew HB3.out) 6).trans rfl, (blk_cell (blk_drew HY3.out) 1).trans rfl, trivial⟩ (fun hHeld => ?_)
  replace HD8 := Aside.mk (((below_drew1 (Below.refl _ _)).cell (World.block_lt_of_cell? _ _ HD8.out)).trans HD8.out)
  replace HB3 := Aside.mk (blk_drew HB3.out)
  replace HY3 := Aside.mk (blk_drew HY3.out)
  replace HC3 := Aside.mk (HC3.out.below (below_drew1 (Below.refl _ _)))
  generalize w3.drew = w4 at *
  refine pu_ 0 (bm 16 1) ?_
  refine pu_ 1 (bm 16 3) ?_
  refine pu_ 2 (bm 16 7) ?_
  refine ta_ 3 (bm 16 15) hHeld ?_
  refine pu_ 4 (bm 16 31) ?_
  refine ta_ 5 (bm 16 63) hHeld ?_
  refine pu_ 6 (bm 16 127) ?_
  refine pu_ 7 (bm 16 255) ?_
  refine pu_ 8 (bm 16 511) ?_
  refine ta_ 9 (bm 16 1023) hHeld ?_
  refine one_ (i := 10) (N := some 37) (bm 16 2047) rfl rfl (by kernel_rfl) (by decide) (fun K hK => ?_)
  refine goes_ Tryd.func83 (by kernel_rfl) rfl #[.agg #[.int .i64 cx.cap, .bool true, .bool false, .int .u64 0, .int .i64 0, .int .i64 0, .int .i64 0], .int .u64 (st.put.length : Int), .int .i64 (n : Int)] (by rfl) rfl rfl (by (try simp only [List.map_toArray, List.map_cons, List.map_nil]); first | done | rfl) ?_
  refine (claimed_ok cx.cap 0 0 0 0 (st.put.length : Int) (n : Int) (by have := HN.out; omega) _).mono ?_
  rintro q w5 ⟨rfl, hb⟩
  refine ⟨_, rfl, ?_⟩
  replace HD8 := Aside.mk ((hb.cell (World.block_lt_of_cell? _ _ HD8.out)).trans HD8.out)
  replace HB3 := Aside.mk (blk_below HB3.out hb)
  replace HY3 := Aside.mk (blk_below HY3.out hb)
  replace HC3 := Aside.mk (HC3.out.below hb)
  clear hb
  refine hK.out _ _ ⟨HD8.out, (blk_cell HB3.out 0).trans rfl, (blk_cell HB3.out 1).trans rfl, (blk_cell HB3.out 2).trans rfl, (blk_cell HB3.out 3).trans rfl, (blk_cell HB3.out 4).trans rfl, (blk_cell HB3.out 5).trans rfl, (blk_cell HB3.out 6).trans rfl, (blk_cell HY3.out 1).trans rfl, trivial⟩ (fun hHeld => ?_)
  clear hK K
  refine norm_ (a' := ?_) ?_ ?_
  rotate_left
  · show Act.put _ (some 37) _ = _
    simp only [Act.put, List.setIfInBounds_toArray, List.set_cons_zero, List.set_cons_succ, i64_w, i32_w]
    rfl
  refine pu_ 11 (bm 16 4095) ?_
  refine pu_ 12 (bm 16 8191) ?_
  refine pu_ 13 (bm 16 16383) ?_
  refine pu_ 14 (bm 16 32767) ?_
  obtain ⟨q5, eH5, _, hh, hfr⟩ := HC3.out.m.hand t HTT.out
  obtain rfl : q5 = q := by have h1 := HK3.out.h.1; rw [eH5, HQ.out] at h1; injection h1 with h1; injection h1
  have HQ5 := Aside.mk eH5
  obtain ⟨v0, v1, v2, v3, v4, v5, v6, hv7⟩ := hR_shape cx (claimL st n) t
  rw [hv7] at hh
  have a0 := hh 0 _ rfl
  rw [Nat.add_zero] at a0
  have a1 := hh 1 _ rfl
  have a2 := hh 2 _ rfl
  have a3 := hh 3 _ rfl
  have a4 := hh 4 _ rfl
  have a5 := hh 5 _ rfl
  have a6 := hh 6 _ rfl
  have fz0 := hfr (t * 7)
  have fz1 := hfr (t * 7 + 1)
  have fz2 := hfr (t * 7 + 2)
  have fz3 := hfr (t * 7 + 3)
  have fz4 := hfr (t * 7 + 4)
  have fz5 := hfr (t * 7 + 5)
  have fz6 := hfr (t * 7 + 6)
  clear hh hfr eH5 hv7
  refine last_ (i := 15) (N := none) (bm 16 65535) rfl rfl (by kernel_rfl) (by decide) (fun K hK => ?_)
  refine skip_ (w1 := ?_) (by rfl) rfl ?_ ?_
  rotate_left
  · go_simp
    rfl
  refine hK.out _ _ ?_
  clear hK K
  have hwf := HC3.out.m.wf.hold t ⟨st.put.length, n⟩ (.inr ⟨by show (1 : Int) ≤ n; have := HN.out.1; omega, HN.out.2.1, by show (0 : Int) ≤ (st.put.length : Int); omega, by show (st.put.length : Int) + n ≤ ((claimL st n).put.length : Int); simp [claimL]⟩)
  have hne := hR_held cx (claimL st n) { claimL st n with held := st.held.set t ⟨st.put.length, n⟩ } t ⟨st.put.length, n⟩ HT.out HM2.out.wf.lh rfl
  rw [show decide (0 < (⟨(st.put.length : Int), (n : Int)⟩ : Hl).n) = true from decide_eq_true (by show (0 : Int) < n; have := HN.out.1; omega)] at hne
  obtain ⟨w6, hw6, hP6⟩ := HC3.out.m.setHand HC3.out.t.b HQ5.out t HTT.out { claimL st n with held := st.held.set t ⟨st.put.length, n⟩ } hwf HC3.out.m.i ⟨rfl, rfl, rfl⟩ (hR_hold cx (claimL st n) _ t ⟨st.put.length, n⟩ rfl rfl rfl) hne (by rw [hne]; exact one7)
  rw [← hw6]
  obtain ⟨k6, hc6, _⟩ := HC3.out.step hP6
  have HC6 := Aside.mk hc6
  clear hw6 hP6 hc6 hne hwf a0 a1 a2 a3 a4 a5 a6 fz0 fz1 fz2 fz3 fz4 fz5 fz6
  refine done_ (by kernel_rfl) ?_
  clear hHeld HB3 HD8 HC3 eu
  have HY6 := Aside.mk (TKR.box HC6.out.t HM2.out HY.out (by decide))
  go_upto_region 5 with (fail)
  refine start_ (n := 7) (S := fun w' => w'.cell? ⟨w.heap.size, 1, none⟩ = some (.int .i64 (n : Int)) ∧ True) (ds := [6]) (bm 7 0) (by kernel_rfl) rfl rfl ⟨(blk_cell (blk_drew HY6.out) 1).trans rfl, trivial⟩ (fun hHeld => ?_)
  replace HC6 := Aside.mk (HC6.out.below (below_drew1 (Below.refl _ _)))
  replace HY6 := Aside.mk (blk_drew HY6.out)
  generalize w6.drew = w7 at *
  refine pu_ 0 (bm 7 1) ?_
  refine pu_ 1 (bm 7 3) ?_
  refine pu_ 3 (bm 7 11) ?_
  refine ta_ 4 (bm 7 27) hHeld ?_
  refine one_ (i := 2) (N := some 43) (bm 7 31) rfl rfl (by kernel_rfl) (by decide) (fun K hK => ?_)
  refine goes_ Tryd.func84 (by kernel_rfl) rfl #[.pointer (some ⟨B, 0, none⟩), .int .i64 (st.put.length : Int)] (by rfl) rfl rfl (by (try simp only [List.map_toArray, List.map_cons, List.map_nil]); first | done | rfl) ?_
  refine (r_pos HC6.out.m (st.put.length : Int)).mono ?_
  rintro q w8 ⟨rfl, hb⟩
  refine ⟨_, rfl, ?_⟩
  replace HC6 := Aside.mk (HC6.out.below hb)
  replace HY6 := Aside.mk (blk_below HY6.out hb)
  clear hb
  refine hK.out _ _ ⟨(blk_cell HY6.out 1).trans rfl, trivial⟩ (fun hHeld => ?_)
  clear hK K
  refine norm_ (a' := ?_) ?_ ?_
  rotate_left
  · show Act.put _ (some 43) _ = _
    simp only [Act.put, List.setIfInBounds_toArray, List.set_cons_zero, List.set_cons_succ, i64_w, i32_w]
    rfl
  refine pu_ 5 (bm 7 63) ?_
  have HE7 := Aside.mk (TKR.box HC6.out.t HM2.out HEV.out (by decide))
  obtain ⟨e0, e1, e2, e3, e4, e5, e6⟩ := Mo.cell7 HE7.out
  have fz0 := blk_frozen HE7.out 0
  have fz1 := blk_frozen HE7.out 1
  have fz2 := blk_frozen HE7.out 2
  have fz3 := blk_frozen HE7.out 3
  have fz4 := blk_frozen HE7.out 4
  have fz5 := blk_frozen HE7.out 5
  have fz6 := blk_frozen HE7.out 6
  refine last_ (i := 6) (N := none) (bm 7 127) rfl rfl (by kernel_rfl) (by decide) (fun K hK => ?_)
  refine skip_ (w1 := ?_) (by rfl) rfl ?_ ?_
  rotate_left
  · go_simp
    rfl
  refine hK.out _ _ ?_
  clear hK K
  obtain ⟨w9, hw9, hP9, hE9⟩ := RPost.set7 (HC6.out.post.up H00.out HB0.out) HE7.out (Nat.le_succ _) H00.out.size (.int .i64 0) (.int .i64 0) (.int .i64 0) (.int .i64 (n : Int)) (.int .u64 (lp.pos st.put.length)) (.int .i64 0) (.slice none 0 0)
  rw [← hw9]
  have HRE := Aside.mk hE9
  have HRP := Aside.mk hP9
  clear hw9 hP9 hE9 e0 e1 e2 e3 e4 e5 e6 fz0 fz1 fz2 fz3 fz4 fz5 fz6
  refine done_ (by kernel_rfl) ?_
  clear hHeld
  go_wp2
  refine bodyPost_ret (results_cell_row rfl _ _ (w.heap.size + 1) 44 #[.int .i64 0, .int .i64 0, .int .i64 0, .int .i64 (n : Int), .int .u64 (lp.pos st.put.length), .int .i64 0, .slice none 0 0] (0, 0) _ rfl HRE.out Tryd.underlying44 rfl (by kernel_rfl)) rfl ?_
  exact ⟨none, 0, by rw [HEQ.out] <;> rfl, by rw [HEQ.out]; exact Nat.le_refl _, by rw [HEQ.out]; exact Kd.F_nil _ _ _, by rw [HEQ.out]; exact HRP.out⟩
set_option maxHeartbeats 8000000 in
theorem r_prod2 {w0 w : World} {B : Nat} {k : Rk} {cx : Cx} {lp : Lp} {st : Ls} {i : Nat} (h : Rm w0.heap.size w B k cx lp st i) (h0 : Below w0.heap.size w0 w) (hi : i < 1000) (t : Nat) (ht : t < cx.prod) (op cn : Int) (cd : List Int) (hop : op = 2) (hc : codeL cx st t ⟨op, cn, cd⟩ = 0) (A : Option Addr) (C : Nat) :
    Calls Tryd.prog 47 #[.pointer (some ⟨B, 0, none⟩), .int .i64 (t : Int), .agg #[.int .i64 op, .int .i64 cn, .slice A cd.length C]] w fun r W => EPostR w0 w B k cx lp st (produceL lp st t ⟨op, cn, cd⟩).1 (i + 1) (produceL lp st t ⟨op, cn, cd⟩).2 r W := by
  subst hop
  have hne : heldL st t ≠ hl0 := fun e => by
    rcases code_prod ht hc with ⟨h2, _⟩ | ⟨_, h2⟩
    · rcases h2 with h2 | h2 <;> cases h2
    · rw [e] at h2; exact h2 rfl
  have hbd := (h.wf.hw t ht).resolve_left hne
  obtain ⟨F, hF⟩ : ∃ F : Nat, (heldL st t).f = F := ⟨(heldL st t).f.toNat, by omega⟩
  obtain ⟨M, hM⟩ : ∃ M : Nat, (heldL st t).n = M := ⟨(heldL st t).n.toNat, by omega⟩
  have hb0 := below_alloc (below_alloc (Below.refl w.heap.size w) (.cells #[.int .i64 2, .int .i64 cn, .slice A cd.length C] 39)) (.cells #[.int .i64 0, .int .i64 0, .int .i64 0, .int .i64 0, .int .u64 0, .int .i64 0, .slice none 0 0] 44)
  have HX := blk_alloc (heap_alloc_new w (.cells #[.int .i64 2, .int .i64 cn, .slice A cd.length C] 39)) (.cells #[.int .i64 0, .int .i64 0, .int .i64 0, .int .i64 0, .int .u64 0, .int .i64 0, .slice none 0 0] 44)
  have HE := heap_alloc_new (w.alloc (.cells #[.int .i64 2, .int .i64 cn, .slice A cd.length C] 39)) (.cells #[.int .i64 0, .int .i64 0, .int .i64 0, .int .i64 0, .int .u64 0, .int .i64 0, .slice none 0 0] 44)
  rw [World.size_alloc] at HE
  have HL := Aside.mk h
  have HB0 := Aside.mk hb0
  have H00 := Aside.mk h0
  have HI := Aside.mk hi
  have HT := Aside.mk ht
  have HTT := Aside.mk (show t < cx.prod + cx.up.length by omega)
  have HFM := Aside.mk (show F + M ≤ st.put.length ∧ 1 ≤ M ∧ st.put.length ≤ 64000 by have := h.wf.tk; have := h.i; rw [hF, hM] at hbd; omega)
  have HEQ := Aside.mk (show produceL lp st t ⟨2, cn, cd⟩ = ({ pubN lp st F M with held := st.held.set t hl0 }, ev0) from by
    show ({ pubN lp st (heldL st t).f.toNat (heldL st t).n.toNat with held := st.held.set t hl0 }, ev0) = _
    rw [hF, hM, Int.toNat_natCast, Int.toNat_natCast])
  have HHR := Aside.mk (show hR cx st t = [.int .i64 cx.cap, .bool true, .bool true, .int .u64 (F : Int), .int .i64 (M : Int), .int .i64 0, .int .i64 0] by unfold hR; rw [if_pos ht, hF, hM, decide_eq_true (by omega)])
  clear hc hne hbd hF hM
  have HM1 := Aside.mk (h.below hb0)
  have HY := Aside.mk HX
  have HEV := Aside.mk HE
  obtain ⟨nn, hnn⟩ : ∃ nn, nn = cx.prod + cx.up.length := ⟨_, rfl⟩
  have HNN := Aside.mk hnn
  have g1 : decide ((t : Int) < (nn : Int)) = true := decide_eq_true (by omega)
  have g2 : (t : Int) < (nn : Int) := by omega
  have g3 : decide (t < nn) = true := decide_eq_true (by omega)
  clear hb0 h h0 hi ht HX HE hnn
  go_enter Tryd.func47, Tryd.ntmps47
  go_upto_region 1 with (fail)
  have HSZ := Aside.mk (show w.heap.size + 1 < ((w.alloc (.cells #[.int .i64 2, .int .i64 cn, .slice A cd.length C] 39)).alloc (.cells #[.int .i64 0, .int .i64 0, .int .i64 0, .int .i64 0, .int .u64 0, .int .i64 0, .slice none 0 0] 44)).heap.size from blk_lt HEV.out)
  have HSZ2 := Aside.mk (show ((w.alloc (.cells #[.int .i64 2, .int .i64 cn, .slice A cd.length C] 39)).alloc (.cells #[.int .i64 0, .int .i64 0, .int .i64 0, .int .i64 0, .int .u64 0, .int .i64 0, .slice none 0 0] 44)).heap.size = w.heap.size + 2 by simp)
  generalize (w.alloc (.cells #[.int .i64 2, .int .i64 cn, .slice A cd.length C] 39)).alloc (.cells #[.int .i64 0, .int .i64 0, .int .i64 0, .int .i64 0, .int .u64 0, .int .i64 0, .slice none 0 0] 44) = w1 at *
  obtain ⟨q, eH, _, hh, _⟩ := HM1.out.hand t HTT.out
  rw [HHR.out] at hh
  have HQ := Aside.mk eH
  have c8 := HM1.out.cells.2.2.2.2.2.2.2.2
  rw [eH, ← HNN.out] at c8
  have a0 := hh 0 _ rfl
  rw [Nat.add_zero] at a0
  have a1 := hh 1 _ rfl
  have a2 := hh 2 _ rfl
  have a3 := hh 3 _ rfl
  have a4 := hh 4 _ rfl
  have a5 := hh 5 _ rfl
  have a6 := hh 6 _ rfl
  clear hh eH
  go_upto_region 2 with (fail)
  clear a0 a1 a2 a3 a4 a5 a6 c8
  have hbA := below_alloc (Below.refl w1.heap.size w1) (.cells #[.int .i64 cx.cap, .bool true, .bool true, .int .u64 (F : Int), .int .i64 (M : Int), .int .i64 0, .int .i64 0] 81)
  have HHB := Aside.mk (heap_alloc_new w1 (.cells #[.int .i64 cx.cap, .bool true, .bool true, .int .u64 (F : Int), .int .i64 (M : Int), .int .i64 0, .int .i64 0] 81))
  have HM2 := Aside.mk (HM1.out.below hbA)
  replace HY := Aside.mk (blk_below HY.out hbA)
  replace HEV := Aside.mk (blk_below HEV.out hbA)
  replace HB0 := Aside.mk (HB0.out.trans (hbA.mono HB0.out.size))
  clear hbA
  have HNO := Aside.mk (show ¬ OwnB (rowsR k cx st) B w1.heap.size from fun ho => absurd (HM1.out.x.lt ho) (Nat.lt_irrefl _))
  generalize hgh : w1.heap.size = gh at *
  have HGH := Aside.mk HSZ2.out
  generalize w1.alloc (.cells #[.int .i64 cx.cap, .bool true, .bool true, .int .u64 (F : Int), .int .i64 (M : Int), .int .i64 0, .int .i64 0] 81) = w2 at *
  clear hgh HSZ2 HSZ HM1
  have HC := Aside.mk (CurR.start HM2.out (below_low HB0.out H00.out))
  obtain ⟨y0, y1, y2⟩ := cell3 HY.out
  obtain ⟨b0, b1, b2, b3, b4, b5, b6⟩ := cell7s HHB.out
  have eF : wrap64 (F : Int) = (F : Int) := w64 (by have := HFM.out; omega)
  have eF2 : IntKind.i64.wrap (F : Int) = (F : Int) := by rw [wrapE]; exact eF
  go_wp2_with fail
  refine (r_publish HC.out.m HC.out.t.b F M HFM.out.1).mono ?_
  rintro r w3 ⟨rfl, hb⟩
  obtain ⟨k3, hc3, hk3⟩ := HC.out.step hb
  have HC3 := Aside.mk hc3
  have HK3 := Aside.mk hk3
  clear hb hc3 hk3 HC y0 y1 y2 b0 b1 b2 b3 b4 b5 b6 eF eF2
  have HY3 := Aside.mk (TKR.box HC3.out.t HM2.out HY.out (by decide))
  have HB3 := Aside.mk (TKR.box2 HC3.out.t HHB.out HNO.out)
  have c8 := HC3.out.m.cells.2.2.2.2.2.2.2.2
  rw [HK3.out.h.1, HK3.out.h.2, HQ.out, ← HNN.out] at c8
  have HD8 := Aside.mk c8
  clear c8
  go_upto_region 8 with (fail)
  refine start_ (n := 12) (S := fun w' => w'.cell? ⟨B, 8, none⟩ = some (.slice (some ⟨q, 0, none⟩) nn k.hc) ∧ w'.cell? ⟨gh, 0, none⟩ = some (.int .i64 cx.cap) ∧ w'.cell? ⟨gh, 1, none⟩ = some (.bool true) ∧ w'.cell? ⟨gh, 2, none⟩ = some (.bool true) ∧ w'.cell? ⟨gh, 3, none⟩ = some (.int .u64 (F : Int)) ∧ w'.cell? ⟨gh, 4, none⟩ = some (.int .i64 (M : Int)) ∧ w'.cell? ⟨gh, 5, none⟩ = some (.int .i64 0) ∧ w'.cell? ⟨gh, 6, none⟩ = some (.int .i64 0) ∧ True) (ds := [11]) (bm 12 0) (by kernel_rfl) rfl rfl ⟨((below_drew1 (Below.refl _ _)).cell (World.block_lt_of_cell? _ _ HD8.out)).trans HD8.out, (blk_cell (blk_drew HB3.out) 0).trans rfl, (blk_cell (blk_drew HB3.out) 1).trans rfl, (blk_cell (blk_drew HB3.out) 2).trans rfl, (blk_cell (blk_drew HB3.out) 3).trans rfl, (blk_cell (blk_drew HB3.out) 4).trans rfl, (blk_cell (blk_drew HB3.out) 5).trans rfl, (blk_cell (blk_drew HB3.out) 6).trans rfl, trivial⟩ (fun hHeld => ?_)
  replace HD8 := Aside.mk (((below_drew1 (Below.refl _ _)).cell (World.block_lt_of_cell? _ _ HD8.out)).trans HD8.out)
  replace HB3 := Aside.mk (blk_drew HB3.out)
  replace HC3 := Aside.mk (HC3.out.below (below_drew1 (Below.refl _ _)))
  generalize w3.drew = w4 at *
  refine pu_ 0 (bm 12 1) ?_
  refine pu_ 1 (bm 12 3) ?_
  refine pu_ 2 (bm 12 7) ?_
  refine ta_ 3 (bm 12 15) hHeld ?_
  refine pu_ 4 (bm 12 31) ?_
  refine ta_ 5 (bm 12 63) hHeld ?_
  refine one_ (i := 6) (N := some 64) (bm 12 127) rfl rfl (by kernel_rfl) (by decide) (fun K hK => ?_)
  refine goes_ Tryd.func86 (by kernel_rfl) rfl #[.agg #[.int .i64 cx.cap, .bool true, .bool true, .int .u64 (F : Int), .int .i64 (M : Int), .int .i64 0, .int .i64 0]] (by rfl) rfl rfl (by (try simp only [List.map_toArray, List.map_cons, List.map_nil]); first | done | rfl) ?_
  refine (published_ok cx.cap (F : Int) (M : Int) 0 0 _).mono ?_
  rintro q w5 ⟨rfl, hb⟩
  refine ⟨_, rfl, ?_⟩
  replace HD8 := Aside.mk ((hb.cell (World.block_lt_of_cell? _ _ HD8.out)).trans HD8.out)
  replace HB3 := Aside.mk (blk_below HB3.out hb)
  replace HC3 := Aside.mk (HC3.out.below hb)
  clear hb
  refine hK.out _ _ ⟨HD8.out, (blk_cell HB3.out 0).trans rfl, (blk_cell HB3.out 1).trans rfl, (blk_cell HB3.out 2).trans rfl, (blk_cell HB3.out 3).trans rfl, (blk_cell HB3.out 4).trans rfl, (blk_cell HB3.out 5).trans rfl, (blk_cell HB3.out 6).trans rfl, trivial⟩ (fun hHeld => ?_)
  clear hK K
  refine norm_ (a' := ?_) ?_ ?_
  rotate_left
  · show Act.put _ (some 64) _ = _
    simp only [Act.put, List.setIfInBounds_toArray, List.set_cons_zero, List.set_cons_succ, i64_w, i32_w]
    rfl
  refine pu_ 7 (bm 12 255) ?_
  refine pu_ 8 (bm 12 511) ?_
  refine pu_ 9 (bm 12 1023) ?_
  refine pu_ 10 (bm 12 2047) ?_
  obtain ⟨q5, eH5, _, hh, hfr⟩ := HC3.out.m.hand t HTT.out
  obtain rfl : q5 = q := by have h1 := HK3.out.h.1; rw [eH5, HQ.out] at h1; injection h1 with h1; injection h1
  have HQ5 := Aside.mk eH5
  obtain ⟨v0, v1, v2, v3, v4, v5, v6, hv7⟩ := hR_shape cx (pubN lp st F M) t
  rw [hv7] at hh
  have a0 := hh 0 _ rfl
  rw [Nat.add_zero] at a0
  have a1 := hh 1 _ rfl
  have a2 := hh 2 _ rfl
  have a3 := hh 3 _ rfl
  have a4 := hh 4 _ rfl
  have a5 := hh 5 _ rfl
  have a6 := hh 6 _ rfl
  have fz0 := hfr (t * 7)
  have fz1 := hfr (t * 7 + 1)
  have fz2 := hfr (t * 7 + 2)
  have fz3 := hfr (t * 7 + 3)
  have fz4 := hfr (t * 7 + 4)
  have fz5 := hfr (t * 7 + 5)
  have fz6 := hfr (t * 7 + 6)
  clear hh hfr eH5 hv7
  refine last_ (i := 11) (N := none) (bm 12 4095) rfl rfl (by kernel_rfl) (by decide) (fun K hK => ?_)
  refine skip_ (w1 := ?_) (by rfl) rfl ?_ ?_
  rotate_left
  · go_simp
    rfl
  refine hK.out _ _ ?_
  clear hK K
  have hpp := pub_put lp st F M
  have hwf := HC3.out.m.wf.hold t hl0 (.inl rfl)
  have hne := hR_held cx (pubN lp st F M) { pubN lp st F M with held := (pubN lp st F M).held.set t hl0 } t hl0 HT.out HC3.out.m.wf.lh rfl
  rw [show decide (0 < hl0.n) = false from rfl, show hl0.f = (0 : Int) from rfl, show hl0.n = (0 : Int) from rfl] at hne
  obtain ⟨w6, hw6, hP6⟩ := HC3.out.m.setHand HC3.out.t.b HQ5.out t HTT.out { pubN lp st F M with held := (pubN lp st F M).held.set t hl0 } (hwf.mono (Nat.le_succ _)) HI.out ⟨rfl, rfl, rfl⟩ (hR_hold cx (pubN lp st F M) _ t hl0 rfl rfl rfl) hne (by rw [hne]; exact one7)
  skip
  rw [show ({ pubN lp st F M with held := (pubN lp st F M).held.set t hl0 } : Ls) = { pubN lp st F M with held := st.held.set t hl0 } by rw [hpp.2.2.2.1]] at hP6
  rw [← show _ = _ from hw6]
  obtain ⟨k6, hc6, _⟩ := HC3.out.step hP6
  have HC6 := Aside.mk hc6
  clear hw6 hP6 hc6 hne hwf hpp a0 a1 a2 a3 a4 a5 a6 fz0 fz1 fz2 fz3 fz4 fz5 fz6
  refine done_ (by kernel_rfl) ?_
  clear hHeld HB3 HD8 HC3
  have HE7 := Aside.mk (TKR.box HC6.out.t HM2.out HEV.out (by decide))
  obtain ⟨e0, e1, e2, e3, e4, e5, e6⟩ := Mo.cell7 HE7.out
  have fz0 := blk_frozen HE7.out 0
  have fz1 := blk_frozen HE7.out 1
  have fz2 := blk_frozen HE7.out 2
  have fz3 := blk_frozen HE7.out 3
  have fz4 := blk_frozen HE7.out 4
  have fz5 := blk_frozen HE7.out 5
  have fz6 := blk_frozen HE7.out 6
  obtain ⟨w9, hw9, hP9, hE9⟩ := RPost.set7 (HC6.out.post.up H00.out HB0.out) HE7.out (Nat.le_succ _) H00.out.size (.int .i64 0) (.int .i64 0) (.int .i64 0) (.int .i64 0) (.int .u64 0) (.int .i64 0) (.slice none 0 0)
  have HRE := Aside.mk hE9
  have HRP := Aside.mk hP9
  clear hP9 hE9
  go_wp2
  rw [← hw9]
  refine bodyPost_ret (results_cell_row rfl _ _ (w.heap.size + 1) 44 #[.int .i64 0, .int .i64 0, .int .i64 0, .int .i64 0, .int .u64 0, .int .i64 0, .slice none 0 0] (0, 0) _ rfl HRE.out Tryd.underlying44 rfl (by kernel_rfl)) rfl ?_
  exact ⟨none, 0, by rw [HEQ.out] <;> rfl, by rw [HEQ.out]; exact Nat.le_refl _, by rw [HEQ.out]; exact Kd.F_nil _ _ _, by rw [HEQ.out]; exact HRP.out⟩
set_option maxHeartbeats 8000000 in
theorem r_prod5 {w0 w : World} {B : Nat} {k : Rk} {cx : Cx} {lp : Lp} {st : Ls} {i : Nat} (h : Rm w0.heap.size w B k cx lp st i) (h0 : Below w0.heap.size w0 w) (hi : i < 1000) (t : Nat) (ht : t < cx.prod) (op cn : Int) (cd : List Int) (hop : op = 5) (hc : codeL cx st t ⟨op, cn, cd⟩ = 0) (A : Option Addr) (C : Nat) (hdF : Kd.F (Kd.int .i64) w (fun q => ¬ OwnB (rowsR k cx st) B q) A cd.length cd) (hdl : cd.length ≤ C) :
    Calls Tryd.prog 47 #[.pointer (some ⟨B, 0, none⟩), .int .i64 (t : Int), .agg #[.int .i64 op, .int .i64 cn, .slice A cd.length C]] w fun r W => EPostR w0 w B k cx lp st (produceL lp st t ⟨op, cn, cd⟩).1 (i + 1) (produceL lp st t ⟨op, cn, cd⟩).2 r W := by
  subst hop
  have hb0 := below_alloc (below_alloc (Below.refl w.heap.size w) (.cells #[.int .i64 5, .int .i64 cn, .slice A cd.length C] 39)) (.cells #[.int .i64 0, .int .i64 0, .int .i64 0, .int .i64 0, .int .u64 0, .int .i64 0, .slice none 0 0] 44)
  have HX := blk_alloc (heap_alloc_new w (.cells #[.int .i64 5, .int .i64 cn, .slice A cd.length C] 39)) (.cells #[.int .i64 0, .int .i64 0, .int .i64 0, .int .i64 0, .int .u64 0, .int .i64 0, .slice none 0 0] 44)
  have HE := heap_alloc_new (w.alloc (.cells #[.int .i64 5, .int .i64 cn, .slice A cd.length C] 39)) (.cells #[.int .i64 0, .int .i64 0, .int .i64 0, .int .i64 0, .int .u64 0, .int .i64 0, .slice none 0 0] 44)
  rw [World.size_alloc] at HE
  have HL := Aside.mk h
  have HB0 := Aside.mk hb0
  have H00 := Aside.mk h0
  have HI := Aside.mk hi
  have HT := Aside.mk ht
  have HTT := Aside.mk (show t < cx.prod + cx.up.length by omega)
  have hcp := code_prod ht hc
  have HN := Aside.mk (show 1 ≤ cd.length ∧ (cd.length : Int) ≤ cx.cap ∧ cd.length ≤ 64 by
    rcases hcp with ⟨_, h2, h3, _⟩ | ⟨h2, _⟩
    · have e : szC ⟨5, cn, cd⟩ = cd.length := rfl
      have := h.s.c64
      omega
    · cases h2)
  have HEQ := Aside.mk (show produceL lp st t ⟨5, cn, cd⟩ = (pubN lp (fillN lp (claimL st cd.length) st.put.length cd cd.length) st.put.length cd.length, ev0) from rfl)
  have HPN := Aside.mk (show st.put.length ≤ 64000 by have := h.wf.tk; have := h.i; omega)
  have HDF := Aside.mk (Kd.F_below hdF hb0)
  obtain ⟨hd, fr, hn, hhr⟩ : ∃ hd fr hn, hR cx st t = [.int .i64 cx.cap, .bool true, .bool hd, .int .u64 fr, .int .i64 hn, .int .i64 0, .int .i64 0] := ⟨_, _, _, by unfold hR; rw [if_pos ht]⟩
  have HHR := Aside.mk hhr
  clear hc hcp hdF hdl hhr
  have HM1 := Aside.mk (h.below hb0)
  have HY := Aside.mk HX
  have HEV := Aside.mk HE
  obtain ⟨nn, hnn⟩ : ∃ nn, nn = cx.prod + cx.up.length := ⟨_, rfl⟩
  have HNN := Aside.mk hnn
  have g1 : decide ((t : Int) < (nn : Int)) = true := decide_eq_true (by omega)
  have g2 : (t : Int) < (nn : Int) := by omega
  have g3 : decide (t < nn) = true := decide_eq_true (by omega)
  clear hb0 h h0 hi ht HX HE hnn
  go_enter Tryd.func47, Tryd.ntmps47
  go_upto_region 1 with (fail)
  have HSZ := Aside.mk (show w.heap.size + 1 < ((w.alloc (.cells #[.int .i64 5, .int .i64 cn, .slice A cd.length C] 39)).alloc (.cells #[.int .i64 0, .int .i64 0, .int .i64 0, .int .i64 0, .int .u64 0, .int .i64 0, .slice none 0 0] 44)).heap.size from blk_lt HEV.out)
  have HSZ2 := Aside.mk (show ((w.alloc (.cells #[.int .i64 5, .int .i64 cn, .slice A cd.length C] 39)).alloc (.cells #[.int .i64 0, .int .i64 0, .int .i64 0, .int .i64 0, .int .u64 0, .int .i64 0, .slice none 0 0] 44)).heap.size = w.heap.size + 2 by simp)
  generalize (w.alloc (.cells #[.int .i64 5, .int .i64 cn, .slice A cd.length C] 39)).alloc (.cells #[.int .i64 0, .int .i64 0, .int .i64 0, .int .i64 0, .int .u64 0, .int .i64 0, .slice none 0 0] 44) = w1 at *
  obtain ⟨q, eH, _, hh, _⟩ := HM1.out.hand t HTT.out
  rw [HHR.out] at hh
  have HQ := Aside.mk eH
  have c8 := HM1.out.cells.2.2.2.2.2.2.2.2
  rw [eH, ← HNN.out] at c8
  have a0 := hh 0 _ rfl
  rw [Nat.add_zero] at a0
  have a1 := hh 1 _ rfl
  have a2 := hh 2 _ rfl
  have a3 := hh 3 _ rfl
  have a4 := hh 4 _ rfl
  have a5 := hh 5 _ rfl
  have a6 := hh 6 _ rfl
  clear hh eH
  go_upto_region 2 with (fail)
  clear a0 a1 a2 a3 a4 a5 a6 c8
  have hbA := below_alloc (Below.refl w1.heap.size w1) (.cells #[.int .i64 cx.cap, .bool true, .bool hd, .int .u64 fr, .int .i64 hn, .int .i64 0, .int .i64 0] 81)
  have HHB := Aside.mk (heap_alloc_new w1 (.cells #[.int .i64 cx.cap, .bool true, .bool hd, .int .u64 fr, .int .i64 hn, .int .i64 0, .int .i64 0] 81))
  have HM2 := Aside.mk (HM1.out.below hbA)
  replace HY := Aside.mk (blk_below HY.out hbA)
  replace HEV := Aside.mk (blk_below HEV.out hbA)
  replace HB0 := Aside.mk (HB0.out.trans (hbA.mono HB0.out.size))
  replace HDF := Aside.mk (Kd.F_below HDF.out hbA)
  clear hbA
  have HNO := Aside.mk (show ¬ OwnB (rowsR k cx st) B w1.heap.size from fun ho => absurd (HM1.out.x.lt ho) (Nat.lt_irrefl _))
  generalize hgh : w1.heap.size = gh at *
  have HGH := Aside.mk HSZ2.out
  generalize w1.alloc (.cells #[.int .i64 cx.cap, .bool true, .bool hd, .int .u64 fr, .int .i64 hn, .int .i64 0, .int .i64 0] 81) = w2 at *
  clear hgh HSZ2 HSZ HM1
  have HC := Aside.mk (CurR.start HM2.out (below_low HB0.out H00.out))
  obtain ⟨y0, y1, y2⟩ := cell3 HY.out
  have HDAT := Aside.mk (fun (W : World) (c : TK w0 w2 W (OwnB (rowsR k cx st) B)) => Kd.F_now (Kd.F_step HDF.out (fun q hq hl => c.p q hl hq)))
  clear HDF g1 g2 g3
  go_wp2_with fail
  refine (r_claim HC.out.m HC.out.t.b cd.length HN.out.2.2 HI.out).mono ?_
  rintro r w3 ⟨rfl, hb⟩
  obtain ⟨k3, hc3, _⟩ := HC.out.step hb
  have HC3 := Aside.mk hc3
  clear hb hc3 HC y0 y1 y2
  have HY3 := Aside.mk (TKR.box HC3.out.t HM2.out HY.out (by decide))
  obtain ⟨y0, y1, y2⟩ := cell3 HY3.out
  go_wp2_with fail
  clear y0 y1 y2 HY3
  go_loopw [10] (fun x wr => ∃ j : Nat, x = .int .i64 (j : Int) ∧ j ≤ cd.length ∧ Mo.Aside (∃ kk, CurR w0 w2 wr B k kk cx lp st (fillN lp (claimL st cd.length) st.put.length cd j) (i + 1))) (fun x _ => cd.length - (intOf x).toNat)
  case atStart => exact ⟨0, rfl, Nat.zero_le _, ⟨k3, HC3.out⟩⟩
  case round =>
    clear HC3
    obtain ⟨j, rfl, hj, HR⟩ := hrel
    obtain ⟨kk, hck⟩ := HR.out
    have HCK := Aside.mk hck
    clear hck HR
    by_cases hlt : j < cd.length
    rotate_left
    · obtain rfl : j = cd.length := by omega
      have t1 : decide ((cd.length : Int) < (cd.length : Int)) = false := decide_eq_false (by omega)
      have t2 : decide (cd.length < cd.length) = false := decide_eq_false (by omega)
      clear hj hlt
      have HY4 := Aside.mk (TKR.box HCK.out.t HM2.out HY.out (by decide))
      obtain ⟨y0, y1, y2⟩ := cell3 HY4.out
      go_wp2_with fail
      clear t1 t2 y0 y1 y2 HY4
      refine (r_publish HCK.out.m HCK.out.t.b st.put.length cd.length (by rw [(fill_keeps lp (claimL st cd.length) st.put.length cd cd.length).1]; simp [claimL])).mono ?_
      rintro r w5 ⟨rfl, hb⟩
      obtain ⟨k5, hc5, _⟩ := HCK.out.step hb
      have HC6 := Aside.mk hc5
      clear hb hc5 HCK
      have HE7 := Aside.mk (TKR.box HC6.out.t HM2.out HEV.out (by decide))
      obtain ⟨e0, e1, e2, e3, e4, e5, e6⟩ := Mo.cell7 HE7.out
      have fz0 := blk_frozen HE7.out 0
      have fz1 := blk_frozen HE7.out 1
      have fz2 := blk_frozen HE7.out 2
      have fz3 := blk_frozen HE7.out 3
      have fz4 := blk_frozen HE7.out 4
      have fz5 := blk_frozen HE7.out 5
      have fz6 := blk_frozen HE7.out 6
      obtain ⟨w9, hw9, hP9, hE9⟩ := RPost.set7 (HC6.out.post.up H00.out HB0.out) HE7.out (Nat.le_succ _) H00.out.size (.int .i64 0) (.int .i64 0) (.int .i64 0) (.int .i64 0) (.int .u64 0) (.int .i64 0) (.slice none 0 0)
      have HRE := Aside.mk hE9
      have HRP := Aside.mk hP9
      clear hP9 hE9
      go_wp2
      rw [← hw9]
      refine bodyPost_ret (results_cell_row rfl _ _ (w.heap.size + 1) 44 #[.int .i64 0, .int .i64 0, .int .i64 0, .int .i64 0, .int .u64 0, .int .i64 0, .slice none 0 0] (0, 0) _ rfl HRE.out Tryd.underlying44 rfl (by kernel_rfl)) rfl ?_
      exact ⟨none, 0, by rw [HEQ.out] <;> rfl, by rw [HEQ.out]; exact Nat.le_refl _, by rw [HEQ.out]; exact Kd.F_nil _ _ _, by rw [HEQ.out]; exact HRP.out⟩
    have t1 : decide ((j : Int) < (cd.length : Int)) = true := decide_eq_true (by omega)
    have t2 : decide (j < cd.length) = true := decide_eq_true hlt
    have t3 : (j : Int) < (cd.length : Int) := by omega
    have HJ := Aside.mk hlt
    have ej := i1 (show j < 4611686018427387904 by have := HN.out; omega)
    obtain ⟨m, hm⟩ : ∃ m, m = st.put.length + j := ⟨_, rfl⟩
    have ew : IntKind.i64.wrap ((st.put.length : Int) + (j : Int)) = (m : Int) := by rw [wrapE, w64 (by have := HPN.out; have := HN.out; omega)]; omega
    have ew2 : wrap64 ((st.put.length : Int) + (j : Int)) = (m : Int) := by rw [← wrapE]; exact ew
    have HME := Aside.mk hm
    have HDJ := Aside.mk (show cd.getD j 0 = cd[j] by rw [List.getD_eq_getElem?_getD, List.getElem?_eq_getElem hlt]; rfl)
    have HY4 := Aside.mk (TKR.box HCK.out.t HM2.out HY.out (by decide))
    obtain ⟨y0, y1, y2⟩ := cell3 HY4.out
    clear hm
    go_wp2_with fail
    refine (r_slot HCK.out.m (m : Int)).mono ?_
    rintro r w4 ⟨rfl, hb⟩
    replace HCK := Aside.mk (HCK.out.below hb)
    clear hb ew ew2 y0 y1 y2 HY4
    have HSL := Aside.mk (show lp.sl (m : Int) < (fillN lp (claimL st cd.length) st.put.length cd j).slots.length by have h1 := HCK.out.m.s.ls (m : Int); have h2 := HCK.out.m.s.lb (m : Int); have h3 := HCK.out.m.wf.ll; rw [HCK.out.m.s.kcp] at h1 h2; omega)
    have HST := Aside.mk (show fillN lp (claimL st cd.length) st.put.length cd (j + 1) = { fillN lp (claimL st cd.length) st.put.length cd j with slots := (fillN lp (claimL st cd.length) st.put.length cd j).slots.set (lp.sl (m : Int)) cd[j] } from by rw [← HDJ.out, HME.out]; rfl)
    generalize lp.sl (m : Int) = s at *
    generalize fillN lp (claimL st cd.length) st.put.length cd j = stj at *
    have HLT := Aside.mk hlt
    go_upto_region 15 with (fail)
    replace HCK := Aside.mk (HCK.out.below (below_drew1 (Below.refl _ _)))
    have HY5 := Aside.mk (TKR.box HCK.out.t HM2.out HY.out (by decide))
    obtain ⟨ql, eL, _, dl, fl⟩ := HCK.out.m.slot s HSL.out
    have d7 := HCK.out.m.cells.2.2.2.2.2.2.2.1
    rw [eL] at d7
    have HEL := Aside.mk eL
    obtain ⟨ad, eA, hx⟩ := Mo.num_at (HDAT.out _ HCK.out.t) j hlt
    subst eA
    have HDJ2 := HDJ
    generalize cd[j] = dj at *
    have s1 : decide ((s : Int) < (stj.slots.length : Int)) = true := decide_eq_true (by have := HSL.out; omega)
    have s2 : (s : Int) < (stj.slots.length : Int) := by have := HSL.out; omega
    have s3 : decide (s < stj.slots.length) = true := decide_eq_true HSL.out
    generalize hsv : stj.slots.getD s 0 = sv at dl
    clear eL hsv hlt hj
    refine start_ (n := 12) (S := fun w' => w'.cell? ⟨B, 7, none⟩ = some (.slice (some ⟨ql, 0, none⟩) stj.slots.length kk.lc) ∧ w'.cell? ⟨w.heap.size, 2, none⟩ = some (.slice (some ad) cd.length C) ∧ w'.cell? (ad.add j) = some (.int .i64 dj) ∧ True) (ds := [11]) (bm 12 0) (by kernel_rfl) rfl rfl ⟨d7, (blk_cell HY5.out 2).trans rfl, hx, trivial⟩ (fun hHeld => ?_)
    generalize w4.drew = wd at *
    refine pu_ 0 (bm 12 1) ?_
    refine pu_ 1 (bm 12 3) ?_
    refine pu_ 2 (bm 12 7) ?_
    refine ta_ 3 (bm 12 15) hHeld ?_
    refine pu_ 4 (bm 12 31) ?_
    refine pu_ 5 (bm 12 63) ?_
    refine ta_ 6 (bm 12 127) hHeld ?_
    refine pu_ 7 (bm 12 255) ?_
    refine pu_ 8 (bm 12 511) ?_
    refine ta_ 9 (bm 12 1023) hHeld ?_
    refine pu_ 10 (bm 12 2047) ?_
    refine last_ (i := 11) (N := none) (bm 12 4095) rfl rfl (by kernel_rfl) (by decide) (fun K hK => ?_)
    refine skip_ (w1 := ?_) (by rfl) rfl ?_ ?_
    rotate_left
    · go_simp
      rfl
    refine hK.out _ _ ?_
    clear hK K
    refine done_ (by kernel_rfl) ?_
    clear hHeld
    obtain ⟨w5, hw5, hP5⟩ := HCK.out.m.setSlot HCK.out.t.b HEL.out s dj
    rw [← hw5]
    obtain ⟨k5, hc5, _⟩ := HCK.out.step hP5
    have HC5 := Aside.mk hc5
    clear hw5 hP5 hc5 s1 s2 s3 d7 dl fl hx HCK t1 t2 t3
    go_wp2_with fail
    go_roundw
    case rel => exact ⟨j + 1, by first | rfl | simp, HJ.out, ⟨k5, by rw [HST.out]; exact HC5.out⟩⟩
    case measure =>
      simp only [intOf, tn1, Int.toNat_natCast]
      exact meas1 HJ.out
end Go.Proofs.YtgibmlbdkijflaaDoor.So
set_option linter.unusedVariables false
set_option linter.unusedSimpArgs false
set_option maxRecDepth 100000
namespace Go.Proofs.YtgibmlbdkijflaaDoor.So
open Go.RowKit Go.Proofs.YtgibmlbdkijflaaDoorW.PrintWords Go.Proofs.YtgibmlbdkijflaaDoorW.PrintLast Go.Proofs.YtgibmlbdkijflaaDoorW.PrintMore
open Ow
open Mo (Aside Cx U64 I64 ints least run cutW plusW New below_low tn1 meas1 w64 i1 wrapE)
open QGc (checkC)
open Graph (checkG Gv)
open Mo (Ev)
theorem hR_cons (cx : Cx) (st : Ls) (kc : Nat) : hR cx st (cx.prod + kc) = [.int .i64 cx.cap, .bool false, .bool false, .int .u64 0, .int .i64 0, .int .i64 (st.gate.getD kc 0), .int .i64 (st.saw.getD kc 0)] := by
  unfold hR
  rw [if_neg (by omega), Nat.add_sub_cancel_left]
theorem hR_see (cx : Cx) (st st' : Ls) (kc : Nat) (g s : Int) (hh : st'.held = st.held) (hg : st'.gate = st.gate.set kc g) (hs : st'.saw = st.saw.set kc s) : ∀ u, u ≠ cx.prod + kc → hR cx st' u = hR cx st u := fun u hu => by
  have e : heldL st' u = heldL st u := by
    unfold heldL
    rw [hh]
  unfold hR
  rw [e]
  by_cases hp : u < cx.prod
  · rw [if_pos hp, if_pos hp]
  · rw [if_neg hp, if_neg hp, hg, hs, getD_set, getD_set, if_neg (by omega), if_neg (by omega)]
theorem hR_seen (cx : Cx) (st st' : Ls) (kc : Nat) (g s : Int) (hk1 : kc < st.gate.length) (hk2 : kc < st.saw.length) (hg : st'.gate = st.gate.set kc g) (hs : st'.saw = st.saw.set kc s) : hR cx st' (cx.prod + kc) = [.int .i64 cx.cap, .bool false, .bool false, .int .u64 0, .int .i64 0, .int .i64 g, .int .i64 s] := by
  rw [hR_cons, hg, hs, getD_set, getD_set, if_pos ⟨rfl, hk1⟩, if_pos ⟨rfl, hk2⟩]
section
variable {w0 w W W1 : World} {B : Nat} {k0 k : Rk} {cx : Cx} {lp : Lp} {st0 st st' : Ls} {i i' : Nat}
theorem CurR.setF (h : CurR w0 w W B k0 k cx lp st0 st i) {g : Nat} (hn : ¬ OwnB (rowsR k cx st) B g) (h0 : w0.heap.size ≤ g) (hn0 : ¬ OwnB (rowsR k0 cx st0) B g) (hg : OwnB (rowsR k0 cx st0) B g ∨ w.heap.size ≤ g) (j : Nat) (u : Value) : CurR w0 w (W.setCell ⟨g, j, none⟩ u) B k0 k cx lp st0 st i :=
  ⟨h.m.move (fun q _ hq => Below.heap_setCell W ⟨g, j, none⟩ u q (by
    show q ≠ g
    intro e
    rw [e] at hq
    rcases hq with hq | hq
    · exact hn hq
    · omega)), h.t.set h0 hg j u, h.n, h.kp⟩
theorem CurR.grown (h : CurR w0 w W B k0 k cx lp st0 st i) {row : Option Nat} (hg : W.grownBy W1 row) (hb : ∀ q, row = some q → w.heap.size ≤ q) (h0 : w0.heap.size ≤ w.heap.size) (ho : ∀ q, OwnB (rowsR k cx st) B q → q < w.heap.size) : CurR w0 w W1 B k0 k cx lp st0 st i :=
  ⟨h.m.move (fun q hq hor => hg.block q hq (fun e => by
    have := hb q e.symm
    rcases hor with h1 | h1
    · have := ho q h1; omega
    · omega)), h.t.grown hg (fun q hq => Nat.le_trans h0 (hb q hq)) (fun q hq => .inr (hb q hq)), h.n, h.kp⟩
end
set_option maxHeartbeats 8000000 in
theorem r_cons4 {w0 w : World} {B : Nat} {k : Rk} {cx : Cx} {lp : Lp} {st : Ls} {i : Nat} (h : Rm w0.heap.size w B k cx lp st i) (h0 : Below w0.heap.size w0 w) (hi : i < 1000) (kc : Nat) (hk : kc < cx.up.length) (t : Nat) (ht : t = cx.prod + kc) (op cn : Int) (cd : List Int) (hop : op = 4) (hc : codeL cx st (cx.prod + kc) ⟨op, cn, cd⟩ = 0) (A : Option Addr) (C : Nat) :
    Calls Tryd.prog 48 #[.pointer (some ⟨B, 0, none⟩), .int .i64 (t : Int), .agg #[.int .i64 op, .int .i64 cn, .slice A cd.length C]] w fun r W => EPostR w0 w B k cx lp st (consumeL cx lp st kc ⟨op, cn, cd⟩).1 (i + 1) (consumeL cx lp st kc ⟨op, cn, cd⟩).2 r W := by
  subst hop
  have hb0 := below_alloc (below_alloc (Below.refl w.heap.size w) (.cells #[.int .i64 4, .int .i64 cn, .slice A cd.length C] 39)) (.cells #[.int .i64 0, .int .i64 0, .int .i64 0, .int .i64 0, .int .u64 0, .int .i64 0, .slice none 0 0] 44)
  have HX := blk_alloc (heap_alloc_new w (.cells #[.int .i64 4, .int .i64 cn, .slice A cd.length C] 39)) (.cells #[.int .i64 0, .int .i64 0, .int .i64 0, .int .i64 0, .int .u64 0, .int .i64 0, .slice none 0 0] 44)
  have HE := heap_alloc_new (w.alloc (.cells #[.int .i64 4, .int .i64 cn, .slice A cd.length C] 39)) (.cells #[.int .i64 0, .int .i64 0, .int .i64 0, .int .i64 0, .int .u64 0, .int .i64 0, .slice none 0 0] 44)
  rw [World.size_alloc] at HE
  have HL := Aside.mk h
  have HB0 := Aside.mk hb0
  have H00 := Aside.mk h0
  have HI := Aside.mk hi
  have HK := Aside.mk hk
  have HTE := Aside.mk ht
  have HTT := Aside.mk (show t < cx.prod + cx.up.length by omega)
  have HHR := Aside.mk (show hR cx st t = [.int .i64 cx.cap, .bool false, .bool false, .int .u64 0, .int .i64 0, .int .i64 (st.gate.getD kc 0), .int .i64 (st.saw.getD kc 0)] by rw [ht]; exact hR_cons cx st kc)
  have HN := Aside.mk (show 1 ≤ cn ∧ cn ≤ st.saw.getD kc 0 - st.gate.getD kc 0 by
    rcases code_cons (by omega) hc with ⟨_, h1, h2⟩ | ⟨h1, _⟩ | h1
    · rw [Nat.add_sub_cancel_left] at h2; exact ⟨h1, h2⟩
    · cases h1
    · cases h1)
  have HBD := Aside.mk (show 0 ≤ st.gate.getD kc 0 ∧ st.gate.getD kc 0 ≤ st.saw.getD kc 0 ∧ st.saw.getD kc 0 ≤ 100000 by
    have := h.wf.g0 kc; have := h.wf.gs kc; have := h.wf.sp kc; have := h.wf.tk; have := h.i; omega)
  have HSL := Aside.mk (h.wf.sl kc)
  have HEQ := Aside.mk (show consumeL cx lp st kc ⟨4, cn, cd⟩ = ({ st with gate := st.gate.set kc (st.gate.getD kc 0 + cn) }, ev0) from rfl)
  clear hc
  have HM1 := Aside.mk (h.below hb0)
  have HY := Aside.mk HX
  have HEV := Aside.mk HE
  obtain ⟨nn, hnn⟩ : ∃ nn, nn = cx.prod + cx.up.length := ⟨_, rfl⟩
  have HNN := Aside.mk hnn
  have g1 : decide ((t : Int) < (nn : Int)) = true := decide_eq_true (by omega)
  have g2 : (t : Int) < (nn : Int) := by omega
  have g3 : decide (t < nn) = true := decide_eq_true (by omega)
  clear hb0 h h0 hi hk ht HX HE hnn
  generalize hgv : st.gate.getD kc 0 = gv at *
  generalize hsv : st.saw.getD kc 0 = sv at *
  have HGV := Aside.mk hgv
  have HSV := Aside.mk hsv
  clear hgv hsv
  go_enter Tryd.func48, Tryd.ntmps48
  go_upto_region 1 with (fail)
  have HSZ := Aside.mk (show w.heap.size + 1 < ((w.alloc (.cells #[.int .i64 4, .int .i64 cn, .slice A cd.length C] 39)).alloc (.cells #[.int .i64 0, .int .i64 0, .int .i64 0, .int .i64 0, .int .u64 0, .int .i64 0, .slice none 0 0] 44)).heap.size from blk_lt HEV.out)
  have HSZ2 := Aside.mk (show ((w.alloc (.cells #[.int .i64 4, .int .i64 cn, .slice A cd.length C] 39)).alloc (.cells #[.int .i64 0, .int .i64 0, .int .i64 0, .int .i64 0, .int .u64 0, .int .i64 0, .slice none 0 0] 44)).heap.size = w.heap.size + 2 by simp)
  generalize (w.alloc (.cells #[.int .i64 4, .int .i64 cn, .slice A cd.length C] 39)).alloc (.cells #[.int .i64 0, .int .i64 0, .int .i64 0, .int .i64 0, .int .u64 0, .int .i64 0, .slice none 0 0] 44) = w1 at *
  obtain ⟨q, eH, _, hh, _⟩ := HM1.out.hand t HTT.out
  rw [HHR.out] at hh
  have HQ := Aside.mk eH
  have c8 := HM1.out.cells.2.2.2.2.2.2.2.2
  rw [eH, ← HNN.out] at c8
  have a0 := hh 0 _ rfl
  rw [Nat.add_zero] at a0
  have a1 := hh 1 _ rfl
  have a2 := hh 2 _ rfl
  have a3 := hh 3 _ rfl
  have a4 := hh 4 _ rfl
  have a5 := hh 5 _ rfl
  have a6 := hh 6 _ rfl
  clear hh eH
  go_upto_region 2 with (fail)
  clear a0 a1 a2 a3 a4 a5 a6 c8
  have hbA := below_alloc (Below.refl w1.heap.size w1) (.cells #[.int .i64 cx.cap, .bool false, .bool false, .int .u64 0, .int .i64 0, .int .i64 gv, .int .i64 sv] 81)
  have HHB := Aside.mk (heap_alloc_new w1 (.cells #[.int .i64 cx.cap, .bool false, .bool false, .int .u64 0, .int .i64 0, .int .i64 gv, .int .i64 sv] 81))
  have HC := Aside.mk ((CurR.start HM1.out (below_low HB0.out H00.out)).below hbA)
  have HY1 := HY
  have HEV1 := HEV
  replace HY := Aside.mk (blk_below HY.out hbA)
  have HNO := Aside.mk (show ¬ OwnB (rowsR k cx st) B w1.heap.size from fun ho => absurd (HM1.out.x.lt ho) (Nat.lt_irrefl _))
  have HOL := Aside.mk (show ∀ q, OwnB (rowsR k cx st) B q → q < w1.heap.size from fun q ho => HM1.out.x.lt ho)
  have HGL := Aside.mk (Nat.le_refl w1.heap.size)
  clear hbA HEV
  generalize hgh : w1.heap.size = gh at *
  have HGH := Aside.mk HSZ2.out
  have HGE := Aside.mk hgh
  generalize w1.alloc (.cells #[.int .i64 cx.cap, .bool false, .bool false, .int .u64 0, .int .i64 0, .int .i64 gv, .int .i64 sv] 81) = w2 at *
  clear hgh HSZ2 HSZ HGL
  obtain ⟨y0, y1, y2⟩ := cell3 HY.out
  have c8 := HC.out.m.cells.2.2.2.2.2.2.2.2
  rw [HQ.out, ← HNN.out] at c8
  have HD8 := Aside.mk c8
  clear c8
  go_upto_region 3 with (fail)
  clear y0 y1 y2
  refine start_ (n := 14) (S := fun w' => w'.cell? ⟨B, 8, none⟩ = some (.slice (some ⟨q, 0, none⟩) nn k.hc) ∧ w'.cell? ⟨gh, 0, none⟩ = some (.int .i64 cx.cap) ∧ w'.cell? ⟨gh, 1, none⟩ = some (.bool false) ∧ w'.cell? ⟨gh, 2, none⟩ = some (.bool false) ∧ w'.cell? ⟨gh, 3, none⟩ = some (.int .u64 0) ∧ w'.cell? ⟨gh, 4, none⟩ = some (.int .i64 0) ∧ w'.cell? ⟨gh, 5, none⟩ = some (.int .i64 gv) ∧ w'.cell? ⟨gh, 6, none⟩ = some (.int .i64 sv) ∧ w'.cell? ⟨w.heap.size, 1, none⟩ = some (.int .i64 cn) ∧ True) (ds := [13]) (bm 14 0) (by kernel_rfl) rfl rfl ⟨((below_drew1 (Below.refl _ _)).cell (World.block_lt_of_cell? _ _ HD8.out)).trans HD8.out, (blk_cell (blk_drew HHB.out) 0).trans rfl, (blk_cell (blk_drew HHB.out) 1).trans rfl, (blk_cell (blk_drew HHB.out) 2).trans rfl, (blk_cell (blk_drew HHB.out) 3).trans rfl, (blk_cell (blk_drew HHB.out) 4).trans rfl, (blk_cell (blk_drew HHB.out) 5).trans rfl, (blk_cell (blk_drew HHB.out) 6).trans rfl, (blk_cell (blk_drew HY.out) 1).trans rfl, trivial⟩ (fun hHeld => ?_)
  replace HD8 := Aside.mk (((below_drew1 (Below.refl _ _)).cell (World.block_lt_of_cell? _ _ HD8.out)).trans HD8.out)
  have HB3 := Aside.mk (blk_drew HHB.out)
  have HY3 := Aside.mk (blk_drew HY.out)
  have HC3 := Aside.mk (HC.out.below (below_drew1 (Below.refl _ _)))
  generalize w2.drew = w4 at *
  refine pu_ 0 (bm 14 1) ?_
  refine pu_ 1 (bm 14 3) ?_
  refine pu_ 2 (bm 14 7) ?_
  refine ta_ 3 (bm 14 15) hHeld ?_
  refine pu_ 4 (bm 14 31) ?_
  refine ta_ 5 (bm 14 63) hHeld ?_
  refine pu_ 6 (bm 14 127) ?_
  refine ta_ 7 (bm 14 255) hHeld ?_
  refine one_ (i := 8) (N := some 29) (bm 14 511) rfl rfl (by kernel_rfl) (by decide) (fun K hK => ?_)
  refine goes_ Tryd.func88 (by kernel_rfl) rfl #[.agg #[.int .i64 cx.cap, .bool false, .bool false, .int .u64 0, .int .i64 0, .int .i64 gv, .int .i64 sv], .int .i64 cn] (by rfl) rfl rfl (by (try simp only [List.map_toArray, List.map_cons, List.map_nil]); first | done | rfl) ?_
  refine (released_ok cx.cap 0 0 gv sv cn HN.out HBD.out _).mono ?_
  rintro q w5 ⟨rfl, hb⟩
  refine ⟨_, rfl, ?_⟩
  replace HD8 := Aside.mk ((hb.cell (World.block_lt_of_cell? _ _ HD8.out)).trans HD8.out)
  replace HB3 := Aside.mk (blk_below HB3.out hb)
  replace HY3 := Aside.mk (blk_below HY3.out hb)
  replace HC3 := Aside.mk (HC3.out.below hb)
  clear hb
  refine hK.out _ _ ⟨HD8.out, (blk_cell HB3.out 0).trans rfl, (blk_cell HB3.out 1).trans rfl, (blk_cell HB3.out 2).trans rfl, (blk_cell HB3.out 3).trans rfl, (blk_cell HB3.out 4).trans rfl, (blk_cell HB3.out 5).trans rfl, (blk_cell HB3.out 6).trans rfl, (blk_cell HY3.out 1).trans rfl, trivial⟩ (fun hHeld => ?_)
  clear hK K
  refine norm_ (a' := ?_) ?_ ?_
  rotate_left
  · show Act.put _ (some 29) _ = _
    simp only [Act.put, List.setIfInBounds_toArray, List.set_cons_zero, List.set_cons_succ, i64_w, i32_w]
    rfl
  refine pu_ 9 (bm 14 1023) ?_
  refine pu_ 10 (bm 14 2047) ?_
  refine pu_ 11 (bm 14 4095) ?_
  refine pu_ 12 (bm 14 8191) ?_
  obtain ⟨q5, eH5, _, hh, hfr⟩ := HC3.out.m.hand t HTT.out
  obtain rfl : q5 = q := by rw [HQ.out] at eH5; injection eH5 with h1; injection h1 with h1; exact h1.symm
  have HQ5 := Aside.mk eH5
  obtain ⟨v0, v1, v2, v3, v4, v5, v6, hv7⟩ := hR_shape cx st t
  rw [hv7] at hh
  have a0 := hh 0 _ rfl
  rw [Nat.add_zero] at a0
  have a1 := hh 1 _ rfl
  have a2 := hh 2 _ rfl
  have a3 := hh 3 _ rfl
  have a4 := hh 4 _ rfl
  have a5 := hh 5 _ rfl
  have a6 := hh 6 _ rfl
  have fz0 := hfr (t * 7)
  have fz1 := hfr (t * 7 + 1)
  have fz2 := hfr (t * 7 + 2)
  have fz3 := hfr (t * 7 + 3)
  have fz4 := hfr (t * 7 + 4)
  have fz5 := hfr (t * 7 + 5)
  have fz6 := hfr (t * 7 + 6)
  clear hh hfr eH5 hv7
  refine last_ (i := 13) (N := none) (bm 14 16383) rfl rfl (by kernel_rfl) (by decide) (fun K hK => ?_)
  refine skip_ (w1 := ?_) (by rfl) rfl ?_ ?_
  rotate_left
  · go_simp
    rfl
  refine hK.out _ _ ?_
  clear hK K
  have hk1 : kc < st.gate.length := by rw [HM1.out.wf.lg]; exact HK.out
  have hk2 : kc < st.saw.length := by rw [HM1.out.wf.ls]; exact HK.out
  have hwf := (HC3.out.m.wf.see kc (gv + cn) sv (by have := HGV.out; have := HN.out; omega) (by have := HN.out; omega) (by have := HSL.out; have := HSV.out; omega)).mono (Nat.le_succ i)
  obtain ⟨st9, hs9⟩ : ∃ s : Ls, s = { st with gate := st.gate.set kc (gv + cn), saw := st.saw.set kc sv } := ⟨_, rfl⟩
  have hst9 : st9.held = st.held ∧ st9.put = st.put ∧ st9.gate = st.gate.set kc (gv + cn) ∧ st9.saw = st.saw.set kc (sv) ∧ st9.put = st.put ∧ st9.data = st.data ∧ st9.slots = st.slots := by rw [hs9]; exact ⟨rfl, rfl, rfl, rfl, rfl, rfl, rfl⟩
  rw [← hs9] at hwf
  have hne := hR_seen cx st st9 kc (gv + cn) sv hk1 hk2 hst9.2.2.1 hst9.2.2.2.1
  rw [← HTE.out] at hne
  obtain ⟨w6, hw6, hP6⟩ := HC3.out.m.setHand HC3.out.t.b HQ5.out t HTT.out st9 hwf HI.out hst9.2.2.2.2 (by rw [HTE.out]; exact hR_see cx st st9 kc (gv + cn) sv hst9.1 hst9.2.2.1 hst9.2.2.2.1) hne (by rw [hne]; exact one7)
  rw [← hw6]
  obtain ⟨k6, hc6, _⟩ := HC3.out.step hP6
  have HC6 := Aside.mk hc6
  clear hw6 hP6 hc6 hne hwf hk1 hk2 a0 a1 a2 a3 a4 a5 a6 fz0 fz1 fz2 fz3 fz4 fz5 fz6 hst9
  have HS9 := Aside.mk (show st9 = { st with gate := st.gate.set kc (gv + cn) } by rw [hs9, ← HSV.out, set_self])
  clear hs9
  refine done_ (by kernel_rfl) ?_
  clear hHeld HB3 HD8 HC3
  have HE7 := Aside.mk (TKR.box HC6.out.t HM1.out HEV1.out (by decide))
  obtain ⟨e0, e1, e2, e3, e4, e5, e6⟩ := Mo.cell7 HE7.out
  have fz0 := blk_frozen HE7.out 0
  have fz1 := blk_frozen HE7.out 1
  have fz2 := blk_frozen HE7.out 2
  have fz3 := blk_frozen HE7.out 3
  have fz4 := blk_frozen HE7.out 4
  have fz5 := blk_frozen HE7.out 5
  have fz6 := blk_frozen HE7.out 6
  obtain ⟨w9, hw9, hP9, hE9⟩ := RPost.set7 (HC6.out.post.up H00.out HB0.out) HE7.out (Nat.le_succ _) H00.out.size (.int .i64 0) (.int .i64 0) (.int .i64 0) (.int .i64 0) (.int .u64 0) (.int .i64 0) (.slice none 0 0)
  have HRE := Aside.mk hE9
  rw [HS9.out] at hP9
  have HRP := Aside.mk hP9
  clear hP9 hE9
  go_wp2
  rw [← hw9]
  refine bodyPost_ret (results_cell_row rfl _ _ (w.heap.size + 1) 44 #[.int .i64 0, .int .i64 0, .int .i64 0, .int .i64 0, .int .u64 0, .int .i64 0, .slice none 0 0] (0, 0) _ rfl HRE.out Tryd.underlying44 rfl (by kernel_rfl)) rfl ?_
  exact ⟨none, 0, by rw [HEQ.out] <;> rfl, by rw [HEQ.out]; exact Nat.le_refl _, by rw [HEQ.out]; exact Kd.F_nil _ _ _, by rw [HEQ.out]; exact HRP.out⟩
structure CK (w0 w w1 : World) (B : Nat) (k : Rk) (cx : Cx) (lp : Lp) (st : Ls) (i gh ge : Nat) (yc hc xc : Array Value) (dv : Value) (xs : List Int) (W : World) : Prop where
  c : CurR w0 w1 W B k k cx lp st st i
  y : W.heap[w.heap.size]? = some (.cells yc 39 (0, 0))
  h : W.heap[gh]? = some (.cells hc 81 (0, 0))
  x : W.heap[ge]? = some (.cells xc 44 (0, 0))
  d : (Kd.int .i64).R 3 W w1.heap.size (fun _ => True) dv xs
  nx : ¬ OwnB (rowsR k cx st) B ge
  nh : ¬ OwnB (rowsR k cx st) B gh
  gg : w1.heap.size ≤ gh
  lo : ∀ q, OwnB (rowsR k cx st) B q → q < w1.heap.size
  gx : w1.heap.size ≤ ge
section
variable {w0 w w1 W W1 : World} {B i gh ge : Nat} {k : Rk} {cx : Cx} {lp : Lp} {st : Ls} {yc hc xc : Array Value} {dv : Value} {xs : List Int}
theorem CK.below (h : CK w0 w w1 B k cx lp st i gh ge yc hc xc dv xs W) (b : Below W.heap.size W W1) : CK w0 w w1 B k cx lp st i gh ge yc hc xc dv xs W1 :=
  { h with c := h.c.below b, y := blk_below h.y b, h := blk_below h.h b, x := blk_below h.x b, d := Kd.R_below h.d b }
theorem CK.setX (h : CK w0 w w1 B k cx lp st i gh ge yc hc xc dv xs W) (h02 : w0.heap.size ≤ w1.heap.size) (j : Nat) (v : Value) (xc' : Array Value) (e : xc.setIfInBounds j v = xc') : CK w0 w w1 B k cx lp st i gh ge yc hc xc' dv xs (W.setCell ⟨ge, j, none⟩ v) :=
  { h with
    c := h.c.setF h.nx (Nat.le_trans h02 h.gx) h.nx (.inr h.gx) j v
    y := blk_far h.y (p := ⟨ge, j, none⟩) (fun e => blk_ne h.y h.x (by decide) e) v
    h := blk_far h.h (p := ⟨ge, j, none⟩) (fun e => blk_ne h.h h.x (by decide) e) v
    x := blk_put h.x j v e
    d := Kd.R_set h.d h.x (fun q hq => by
      rcases List.mem_cons.1 hq with e | e
      · rw [e]; decide
      · cases e) j v }
theorem CK.setH (h : CK w0 w w1 B k cx lp st i gh ge yc hc xc dv xs W) (h02 : w0.heap.size ≤ w1.heap.size) (j : Nat) (v : Value) (hc' : Array Value) (e : hc.setIfInBounds j v = hc') : CK w0 w w1 B k cx lp st i gh ge yc hc' xc dv xs (W.setCell ⟨gh, j, none⟩ v) :=
  { h with
    c := h.c.setF h.nh (Nat.le_trans h02 h.gg) h.nh (.inr h.gg) j v
    y := blk_far h.y (p := ⟨gh, j, none⟩) (fun e => blk_ne h.y h.h (by decide) e) v
    h := blk_put h.h j v e
    x := blk_far h.x (p := ⟨gh, j, none⟩) (fun e => blk_ne h.x h.h (by decide) e) v
    d := Kd.R_set h.d h.h (fun q hq => by
      rcases List.mem_cons.1 hq with e | e
      · rw [e]; decide
      · cases e) j v }
theorem CK.app (h : CK w0 w w1 B k cx lp st i gh ge yc hc xc dv xs W) (h02 : w0.heap.size ≤ w1.heap.size) {v' : Value} {xs' : List Int} (hr : (Kd.int .i64).R 3 W1 w1.heap.size (fun _ => True) v' xs') (hg : W.grownBy W1 dv.ownBlock) : CK w0 w w1 B k cx lp st i gh ge yc hc xc v' xs' W1 :=
  { h with
    c := h.c.grown hg (fun q hq => Kd.R_base h.d q hq) h02 h.lo
    y := blk_grown h.y hg (fun e => Kd.R_ne h.d h.y (by decide) e)
    h := blk_grown h.h hg (fun e => Kd.R_ne h.d h.h (by decide) e)
    x := blk_grown h.x hg (fun e => Kd.R_ne h.d h.x (by decide) e)
    d := hr }
end
set_option maxHeartbeats 8000000 in
theorem r_cons3 {w0 w : World} {B : Nat} {k : Rk} {cx : Cx} {lp : Lp} {st : Ls} {i : Nat} (h : Rm w0.heap.size w B k cx lp st i) (h0 : Below w0.heap.size w0 w) (hi : i < 1000) (kc : Nat) (hk : kc < cx.up.length) (t : Nat) (ht : t = cx.prod + kc) (op cn : Int) (cd : List Int) (hop : op = 3) (hc : codeL cx st (cx.prod + kc) ⟨op, cn, cd⟩ = 0) (A : Option Addr) (C : Nat) :
    Calls Tryd.prog 48 #[.pointer (some ⟨B, 0, none⟩), .int .i64 (t : Int), .agg #[.int .i64 op, .int .i64 cn, .slice A cd.length C]] w fun r W => EPostR w0 w B k cx lp st (consumeL cx lp st kc ⟨op, cn, cd⟩).1 (i + 1) (consumeL cx lp st kc ⟨op, cn, cd⟩).2 r W := by
  subst hop
  have hb0 := below_alloc (below_alloc (Below.refl w.heap.size w) (.cells #[.int .i64 3, .int .i64 cn, .slice A cd.length C] 39)) (.cells #[.int .i64 0, .int .i64 0, .int .i64 0, .int .i64 0, .int .u64 0, .int .i64 0, .slice none 0 0] 44)
  have HX := blk_alloc (heap_alloc_new w (.cells #[.int .i64 3, .int .i64 cn, .slice A cd.length C] 39)) (.cells #[.int .i64 0, .int .i64 0, .int .i64 0, .int .i64 0, .int .u64 0, .int .i64 0, .slice none 0 0] 44)
  have HE := heap_alloc_new (w.alloc (.cells #[.int .i64 3, .int .i64 cn, .slice A cd.length C] 39)) (.cells #[.int .i64 0, .int .i64 0, .int .i64 0, .int .i64 0, .int .u64 0, .int .i64 0, .slice none 0 0] 44)
  rw [World.size_alloc] at HE
  have HL := Aside.mk h
  have HB0 := Aside.mk hb0
  have H00 := Aside.mk h0
  have HI := Aside.mk hi
  have HK := Aside.mk hk
  have HTE := Aside.mk ht
  have HTT := Aside.mk (show t < cx.prod + cx.up.length by omega)
  have HHR := Aside.mk (show hR cx st t = [.int .i64 cx.cap, .bool false, .bool false, .int .u64 0, .int .i64 0, .int .i64 (st.gate.getD kc 0), .int .i64 (st.saw.getD kc 0)] by rw [ht]; exact hR_cons cx st kc)
  have HEQ := Aside.mk (show consumeL cx lp st kc ⟨3, cn, cd⟩ = ({ st with saw := st.saw.set kc (limitL cx st kc) }, { ev0 with n := limitL cx st kc - st.gate.getD kc 0 }) from rfl)
  clear hc
  have HM1 := Aside.mk (h.below hb0)
  have HY := Aside.mk HX
  have HEV := Aside.mk HE
  obtain ⟨nn, hnn⟩ : ∃ nn, nn = cx.prod + cx.up.length := ⟨_, rfl⟩
  have HNN := Aside.mk hnn
  have g1 : decide ((t : Int) < (nn : Int)) = true := decide_eq_true (by omega)
  have g2 : (t : Int) < (nn : Int) := by omega
  have g3 : decide (t < nn) = true := decide_eq_true (by omega)
  clear hb0 h h0 hi hk ht HX HE hnn
  generalize hgv : st.gate.getD kc 0 = gv at *
  generalize hsv : st.saw.getD kc 0 = sv at *
  have HGV := Aside.mk hgv
  have HSV := Aside.mk hsv
  clear hgv hsv
  go_enter Tryd.func48, Tryd.ntmps48
  go_upto_region 1 with (fail)
  have HSZ := Aside.mk (show w.heap.size + 1 < ((w.alloc (.cells #[.int .i64 3, .int .i64 cn, .slice A cd.length C] 39)).alloc (.cells #[.int .i64 0, .int .i64 0, .int .i64 0, .int .i64 0, .int .u64 0, .int .i64 0, .slice none 0 0] 44)).heap.size from blk_lt HEV.out)
  have HSZ2 := Aside.mk (show ((w.alloc (.cells #[.int .i64 3, .int .i64 cn, .slice A cd.length C] 39)).alloc (.cells #[.int .i64 0, .int .i64 0, .int .i64 0, .int .i64 0, .int .u64 0, .int .i64 0, .slice none 0 0] 44)).heap.size = w.heap.size + 2 by simp)
  generalize (w.alloc (.cells #[.int .i64 3, .int .i64 cn, .slice A cd.length C] 39)).alloc (.cells #[.int .i64 0, .int .i64 0, .int .i64 0, .int .i64 0, .int .u64 0, .int .i64 0, .slice none 0 0] 44) = w1 at *
  obtain ⟨q, eH, _, hh, _⟩ := HM1.out.hand t HTT.out
  rw [HHR.out] at hh
  have HQ := Aside.mk eH
  have c8 := HM1.out.cells.2.2.2.2.2.2.2.2
  rw [eH, ← HNN.out] at c8
  have a0 := hh 0 _ rfl
  rw [Nat.add_zero] at a0
  have a1 := hh 1 _ rfl
  have a2 := hh 2 _ rfl
  have a3 := hh 3 _ rfl
  have a4 := hh 4 _ rfl
  have a5 := hh 5 _ rfl
  have a6 := hh 6 _ rfl
  clear hh eH
  go_upto_region 2 with (fail)
  clear a0 a1 a2 a3 a4 a5 a6 c8
  have hbA := below_alloc (Below.refl w1.heap.size w1) (.cells #[.int .i64 cx.cap, .bool false, .bool false, .int .u64 0, .int .i64 0, .int .i64 gv, .int .i64 sv] 81)
  have HHB := Aside.mk (heap_alloc_new w1 (.cells #[.int .i64 cx.cap, .bool false, .bool false, .int .u64 0, .int .i64 0, .int .i64 gv, .int .i64 sv] 81))
  have HC := Aside.mk ((CurR.start HM1.out (below_low HB0.out H00.out)).below hbA)
  have HY1 := HY
  have HEV1 := HEV
  replace HY := Aside.mk (blk_below HY.out hbA)
  have HNO := Aside.mk (show ¬ OwnB (rowsR k cx st) B w1.heap.size from fun ho => absurd (HM1.out.x.lt ho) (Nat.lt_irrefl _))
  have HOL := Aside.mk (show ∀ q, OwnB (rowsR k cx st) B q → q < w1.heap.size from fun q ho => HM1.out.x.lt ho)
  have HGL := Aside.mk (Nat.le_refl w1.heap.size)
  clear hbA HEV
  generalize hgh : w1.heap.size = gh at *
  have HGH := Aside.mk HSZ2.out
  have HGE := Aside.mk hgh
  generalize w1.alloc (.cells #[.int .i64 cx.cap, .bool false, .bool false, .int .u64 0, .int .i64 0, .int .i64 gv, .int .i64 sv] 81) = w2 at *
  clear hgh HSZ2 HSZ HGL
  obtain ⟨y0, y1, y2⟩ := cell3 HY.out
  have c3 := HC.out.m.cells.2.2.2.1
  have ew2 : wrap64 ((t : Int) - (cx.prod : Int)) = (kc : Int) := by rw [w64 (by have := HM1.out.s.p4; have := HM1.out.s.u6; have := HK.out; have := HTE.out; omega)]; have := HTE.out; omega
  have ew : IntKind.i64.wrap ((t : Int) - (cx.prod : Int)) = (kc : Int) := by rw [wrapE]; exact ew2
  have HLL := Aside.mk (limit_le HM1.out.wf kc)
  go_wp2_with fail
  refine (r_limit HC.out.m kc HK.out).mono ?_
  rintro r w3 ⟨rfl, hb⟩
  clear y0 y1 y2 c3 ew ew2
  replace HC := Aside.mk (HC.out.below hb)
  replace HY := Aside.mk (blk_below HY.out hb)
  have HB3 := Aside.mk (blk_below HHB.out hb)
  clear hb
  generalize hlm : limitL cx st kc = lm at *
  have HLM := Aside.mk hlm
  clear hlm
  obtain ⟨b0, b1, b2, b3, b4, b5, b6⟩ := cell7s HB3.out
  have fz6 := blk_frozen HB3.out 6
  have h01 := Nat.le_trans H00.out.size HB0.out.size
  have H01 := Aside.mk h01
  clear h01
  go_upto_region 6 with (fail)
  clear b0 b1 b2 b3 b4 b5 b6 fz6
  replace HC := Aside.mk (HC.out.setF HNO.out (by rw [← HGE.out]; exact H01.out) HNO.out (.inr (Nat.le_of_eq HGE.out)) 6 (.int .i64 lm))
  replace HY := Aside.mk (blk_far HY.out (p := ⟨gh, 6, none⟩) (show w.heap.size ≠ gh by have := HGH.out; omega) (.int .i64 lm))
  replace HB3 := Aside.mk (blk_put (cs' := #[.int .i64 cx.cap, .bool false, .bool false, .int .u64 0, .int .i64 0, .int .i64 gv, .int .i64 lm]) HB3.out 6 (.int .i64 lm) rfl)
  generalize w3.setCell ⟨gh, 6, none⟩ (.int .i64 lm) = w4 at *
  obtain ⟨b0, b1, b2, b3, b4, b5, b6⟩ := cell7s HB3.out
  have HBDL := Aside.mk (show 0 ≤ gv ∧ gv ≤ sv ∧ sv ≤ lm ∧ lm ≤ 64000 by
    have := HM1.out.wf.g0 kc; have := HM1.out.wf.gs kc; have := HM1.out.wf.sl kc; have := HM1.out.wf.tk; have := HM1.out.i; have := HGV.out; have := HSV.out; have := HLM.out; have := HLL.out; omega)
  have ew2 : wrap64 (lm - gv) = lm - gv := w64 (by have := HBDL.out; omega)
  have ew : IntKind.i64.wrap (lm - gv) = lm - gv := by rw [wrapE]; exact ew2
  go_upto_region 7 with (fail)
  clear b0 b1 b2 b3 b4 b5 b6 ew ew2
  have HCK := Aside.mk (show CK w0 w w1 B k cx lp st i gh w4.heap.size _ _ _ (.slice none 0 0) [] (w4.alloc (.cells #[.int .i64 0, .int .i64 0, .int .i64 0, .int .i64 (lm - gv), .int .u64 0, .int .i64 0, .slice none 0 0] 44)) from
    have hb := below_alloc (Below.refl w4.heap.size w4) (.cells #[.int .i64 0, .int .i64 0, .int .i64 0, .int .i64 (lm - gv), .int .u64 0, .int .i64 0, .slice none 0 0] 44)
    { c := HC.out.below hb, y := blk_below HY.out hb, h := blk_below HB3.out hb, x := heap_alloc_new w4 (.cells #[.int .i64 0, .int .i64 0, .int .i64 0, .int .i64 (lm - gv), .int .u64 0, .int .i64 0, .slice none 0 0] 44), d := Kd.R_nil _ _ _ _ _, nx := fun ho => by have := HOL.out _ ho; have := HC.out.t.s; have := HGE.out; omega, nh := HNO.out, gg := Nat.le_of_eq HGE.out, lo := fun q hq => by have := HOL.out q hq; have := HGE.out; omega, gx := HC.out.t.s })
  clear HC HY HB3
  have HGE4 := Aside.mk (show gh < w4.heap.size by have := HCK.out.gx; have := HGE.out; exact Nat.lt_of_le_of_ne (by omega) (fun e => blk_ne HCK.out.h HCK.out.x (by decide) e))
  generalize w4.heap.size = ge at *
  generalize w4.alloc (.cells #[.int .i64 0, .int .i64 0, .int .i64 0, .int .i64 (lm - gv), .int .u64 0, .int .i64 0, .slice none 0 0] 44) = w5 at *
  obtain ⟨y0, y1, y2⟩ := cell3 HCK.out.y
  go_wp2_with fail
  clear y0 y1 y2
  have c8 := HCK.out.c.m.cells.2.2.2.2.2.2.2.2
  rw [HQ.out, ← HNN.out] at c8
  have HD8 := Aside.mk c8
  clear c8
  go_upto_region 16 with (fail)
  refine start_ (n := 8) (S := fun w' => w'.cell? ⟨B, 8, none⟩ = some (.slice (some ⟨q, 0, none⟩) nn k.hc) ∧ w'.cell? ⟨gh, 0, none⟩ = some (.int .i64 cx.cap) ∧ w'.cell? ⟨gh, 1, none⟩ = some (.bool false) ∧ w'.cell? ⟨gh, 2, none⟩ = some (.bool false) ∧ w'.cell? ⟨gh, 3, none⟩ = some (.int .u64 0) ∧ w'.cell? ⟨gh, 4, none⟩ = some (.int .i64 0) ∧ w'.cell? ⟨gh, 5, none⟩ = some (.int .i64 gv) ∧ w'.cell? ⟨gh, 6, none⟩ = some (.int .i64 lm) ∧ True) (ds := [7]) (bm 8 0) (by kernel_rfl) rfl rfl ⟨((below_drew1 (Below.refl _ _)).cell (World.block_lt_of_cell? _ _ HD8.out)).trans HD8.out, (blk_cell (blk_drew HCK.out.h) 0).trans rfl, (blk_cell (blk_drew HCK.out.h) 1).trans rfl, (blk_cell (blk_drew HCK.out.h) 2).trans rfl, (blk_cell (blk_drew HCK.out.h) 3).trans rfl, (blk_cell (blk_drew HCK.out.h) 4).trans rfl, (blk_cell (blk_drew HCK.out.h) 5).trans rfl, (blk_cell (blk_drew HCK.out.h) 6).trans rfl, trivial⟩ (fun hHeld => ?_)
  replace HCK := Aside.mk (HCK.out.below (below_drew1 (Below.refl _ _)))
  have HC3 := Aside.mk HCK.out.c
  generalize w5.drew = w6 at *
  refine pu_ 0 (bm 8 1) ?_
  refine pu_ 1 (bm 8 3) ?_
  refine pu_ 2 (bm 8 7) ?_
  refine ta_ 3 (bm 8 15) hHeld ?_
  refine pu_ 4 (bm 8 31) ?_
  refine ta_ 5 (bm 8 63) hHeld ?_
  refine pu_ 6 (bm 8 127) ?_
  obtain ⟨q5, eH5, _, hh, hfr⟩ := HC3.out.m.hand t HTT.out
  obtain rfl : q5 = q := by rw [HQ.out] at eH5; injection eH5 with h1; injection h1 with h1; exact h1.symm
  have HQ5 := Aside.mk eH5
  obtain ⟨v0, v1, v2, v3, v4, v5, v6, hv7⟩ := hR_shape cx st t
  rw [hv7] at hh
  have a0 := hh 0 _ rfl
  rw [Nat.add_zero] at a0
  have a1 := hh 1 _ rfl
  have a2 := hh 2 _ rfl
  have a3 := hh 3 _ rfl
  have a4 := hh 4 _ rfl
  have a5 := hh 5 _ rfl
  have a6 := hh 6 _ rfl
  have fz0 := hfr (t * 7)
  have fz1 := hfr (t * 7 + 1)
  have fz2 := hfr (t * 7 + 2)
  have fz3 := hfr (t * 7 + 3)
  have fz4 := hfr (t * 7 + 4)
  have fz5 := hfr (t * 7 + 5)
  have fz6 := hfr (t * 7 + 6)
  clear hh hfr eH5 hv7
  refine last_ (i := 7) (N := none) (bm 8 255) rfl rfl (by kernel_rfl) (by decide) (fun K hK => ?_)
  refine skip_ (w1 := ?_) (by rfl) rfl ?_ ?_
  rotate_left
  · go_simp
    rfl
  refine hK.out _ _ ?_
  clear hK K
  have hk1 : kc < st.gate.length := by rw [HM1.out.wf.lg]; exact HK.out
  have hk2 : kc < st.saw.length := by rw [HM1.out.wf.ls]; exact HK.out
  have hwf := (HC3.out.m.wf.see kc gv lm (by have := HGV.out; omega) (by have := HBDL.out; omega) (by have := HLM.out; omega)).mono (Nat.le_succ i)
  obtain ⟨st9, hs9⟩ : ∃ s : Ls, s = { st with gate := st.gate.set kc (gv), saw := st.saw.set kc lm } := ⟨_, rfl⟩
  have hst9 : st9.held = st.held ∧ st9.put = st.put ∧ st9.gate = st.gate.set kc (gv) ∧ st9.saw = st.saw.set kc (lm) ∧ st9.put = st.put ∧ st9.data = st.data ∧ st9.slots = st.slots := by rw [hs9]; exact ⟨rfl, rfl, rfl, rfl, rfl, rfl, rfl⟩
  rw [← hs9] at hwf
  have hne := hR_seen cx st st9 kc gv lm hk1 hk2 hst9.2.2.1 hst9.2.2.2.1
  rw [← HTE.out] at hne
  obtain ⟨w7, hw7, hP6⟩ := HC3.out.m.setHand HC3.out.t.b HQ5.out t HTT.out st9 hwf HI.out hst9.2.2.2.2 (by rw [HTE.out]; exact hR_see cx st st9 kc gv lm hst9.1 hst9.2.2.1 hst9.2.2.2.1) hne (by rw [hne]; exact one7)
  rw [← hw7]
  have HX7 := Aside.mk (TKR.box2 (by obtain ⟨_, _, t7, _⟩ := hP6; exact t7) HCK.out.x HCK.out.nx)
  have HDV := Aside.mk (show Kd.F (Kd.int .i64) w7 (fun q => w1.heap.size ≤ q) none 0 [] from by
    obtain ⟨_, _, t7, _⟩ := hP6
    exact Kd.F_step (Kd.F_mono (Kd.R_F (Kd.R_tight rfl HCK.out.d)) (fun q hq => Kd.R_base HCK.out.d q hq.symm)) (fun q hq hl => t7.p q hl (fun ho => by have := HCK.out.lo q ho; omega)))
  obtain ⟨k6, hc6, _⟩ := HC3.out.step hP6
  have HC6 := Aside.mk hc6
  clear hw7 hP6 hc6 hne hwf hk1 hk2 a0 a1 a2 a3 a4 a5 a6 fz0 fz1 fz2 fz3 fz4 fz5 fz6 hst9
  have HS9 := Aside.mk hs9
  clear hs9
  refine done_ (by kernel_rfl) ?_
  clear hHeld HD8 HC3 HCK
  obtain ⟨x0, x1, x2, x3, x4, x5, x6⟩ := Mo.cell7 HX7.out
  have HE7 := Aside.mk (TKR.box HC6.out.t HM1.out HEV1.out (by decide))
  obtain ⟨e0, e1, e2, e3, e4, e5, e6⟩ := Mo.cell7 HE7.out
  have fz0 := blk_frozen HE7.out 0
  have fz1 := blk_frozen HE7.out 1
  have fz2 := blk_frozen HE7.out 2
  have fz3 := blk_frozen HE7.out 3
  have fz4 := blk_frozen HE7.out 4
  have fz5 := blk_frozen HE7.out 5
  have fz6 := blk_frozen HE7.out 6
  obtain ⟨w9, hw9, hP9, hE9⟩ := RPost.set7 (HC6.out.post.up H00.out HB0.out) HE7.out (Nat.le_succ _) H00.out.size (.int .i64 0) (.int .i64 0) (.int .i64 0) (.int .i64 (lm - gv)) (.int .u64 0) (.int .i64 0) (.slice none 0 0)
  have HRE := Aside.mk hE9
  have HRP := Aside.mk hP9
  have HDW := Aside.mk (Kd.F_step HDV.out (W1 := w9) (fun q hq _ => by rw [hw9, set7_far _ _ _ _ _ _ _ (show q ≠ w.heap.size + 1 by have := HGE.out; have := HGH.out; omega)]))
  clear hP9 hE9
  go_wp2
  rw [← hw9]
  refine bodyPost_ret (results_cell_row rfl _ _ (w.heap.size + 1) 44 #[.int .i64 0, .int .i64 0, .int .i64 0, .int .i64 (lm - gv), .int .u64 0, .int .i64 0, .slice none 0 0] (0, 0) _ rfl HRE.out Tryd.underlying44 rfl (by kernel_rfl)) rfl ?_
  have HS8 := Aside.mk (show st9 = { st with saw := st.saw.set kc lm } by rw [HS9.out, ← HGV.out, set_self])
  exact ⟨none, 0, by rw [HEQ.out] <;> rfl, by rw [HEQ.out]; exact Nat.le_refl _, by rw [HEQ.out]; exact Kd.F_nil _ _ _, by rw [HEQ.out]; have h9 := HRP.out; rw [HS8.out] at h9; exact h9⟩
theorem take_one (l : List Int) (g j : Nat) (h : g + j < l.length) : (l.drop g).take j ++ [l.getD (g + j) 0] = (l.drop g).take (j + 1) := by
  rw [List.take_succ_eq_append_getElem (by rw [List.length_drop]; omega), List.getElem_drop, List.getD_eq_getElem?_getD, List.getElem?_eq_getElem h]
  rfl
set_option maxHeartbeats 8000000 in
theorem r_cons6 {w0 w : World} {B : Nat} {k : Rk} {cx : Cx} {lp : Lp} {st : Ls} {i : Nat} (h : Rm w0.heap.size w B k cx lp st i) (h0 : Below w0.heap.size w0 w) (hi : i < 1000) (kc : Nat) (hk : kc < cx.up.length) (t : Nat) (ht : t = cx.prod + kc) (op cn : Int) (cd : List Int) (hop : op = 6) (hc : codeL cx st (cx.prod + kc) ⟨op, cn, cd⟩ = 0) (A : Option Addr) (C : Nat) :
    Calls Tryd.prog 48 #[.pointer (some ⟨B, 0, none⟩), .int .i64 (t : Int), .agg #[.int .i64 op, .int .i64 cn, .slice A cd.length C]] w fun r W => EPostR w0 w B k cx lp st (consumeL cx lp st kc ⟨op, cn, cd⟩).1 (i + 1) (consumeL cx lp st kc ⟨op, cn, cd⟩).2 r W := by
  subst hop
  have hb0 := below_alloc (below_alloc (Below.refl w.heap.size w) (.cells #[.int .i64 6, .int .i64 cn, .slice A cd.length C] 39)) (.cells #[.int .i64 0, .int .i64 0, .int .i64 0, .int .i64 0, .int .u64 0, .int .i64 0, .slice none 0 0] 44)
  have HX := blk_alloc (heap_alloc_new w (.cells #[.int .i64 6, .int .i64 cn, .slice A cd.length C] 39)) (.cells #[.int .i64 0, .int .i64 0, .int .i64 0, .int .i64 0, .int .u64 0, .int .i64 0, .slice none 0 0] 44)
  have HE := heap_alloc_new (w.alloc (.cells #[.int .i64 6, .int .i64 cn, .slice A cd.length C] 39)) (.cells #[.int .i64 0, .int .i64 0, .int .i64 0, .int .i64 0, .int .u64 0, .int .i64 0, .slice none 0 0] 44)
  rw [World.size_alloc] at HE
  have HL := Aside.mk h
  have HB0 := Aside.mk hb0
  have H00 := Aside.mk h0
  have HI := Aside.mk hi
  have HK := Aside.mk hk
  have HTE := Aside.mk ht
  have HTT := Aside.mk (show t < cx.prod + cx.up.length by omega)
  have HHR := Aside.mk (show hR cx st t = [.int .i64 cx.cap, .bool false, .bool false, .int .u64 0, .int .i64 0, .int .i64 (st.gate.getD kc 0), .int .i64 (st.saw.getD kc 0)] by rw [ht]; exact hR_cons cx st kc)
  have HN := Aside.mk (show 1 ≤ cn by
    rcases code_cons (by omega) hc with ⟨h1, _⟩ | ⟨_, h1, h2⟩ | h1
    · cases h1
    · exact h1
    · cases h1)
  have HLD := Aside.mk h.wf.ld
  have HEQ := Aside.mk (show consumeL cx lp st kc ⟨6, cn, cd⟩ = if min cn (limitL cx st kc - st.gate.getD kc 0) = 0 then ({ st with saw := st.saw.set kc (limitL cx st kc) }, ev0) else ({ st with saw := st.saw.set kc (limitL cx st kc), gate := st.gate.set kc (st.gate.getD kc 0 + min cn (limitL cx st kc - st.gate.getD kc 0)) },
    { ev0 with pos := lp.pos (st.gate.getD kc 0), n := min cn (limitL cx st kc - st.gate.getD kc 0), data := (st.data.drop (st.gate.getD kc 0).toNat).take (min cn (limitL cx st kc - st.gate.getD kc 0)).toNat }) from rfl)
  clear hc
  have HM1 := Aside.mk (h.below hb0)
  have HY := Aside.mk HX
  have HEV := Aside.mk HE
  obtain ⟨nn, hnn⟩ : ∃ nn, nn = cx.prod + cx.up.length := ⟨_, rfl⟩
  have HNN := Aside.mk hnn
  have g1 : decide ((t : Int) < (nn : Int)) = true := decide_eq_true (by omega)
  have g2 : (t : Int) < (nn : Int) := by omega
  have g3 : decide (t < nn) = true := decide_eq_true (by omega)
  clear hb0 h h0 hi hk ht HX HE hnn
  generalize hgv : st.gate.getD kc 0 = gv at *
  generalize hsv : st.saw.getD kc 0 = sv at *
  have HGV := Aside.mk hgv
  have HSV := Aside.mk hsv
  clear hgv hsv
  go_enter Tryd.func48, Tryd.ntmps48
  go_upto_region 1 with (fail)
  have HSZ := Aside.mk (show w.heap.size + 1 < ((w.alloc (.cells #[.int .i64 6, .int .i64 cn, .slice A cd.length C] 39)).alloc (.cells #[.int .i64 0, .int .i64 0, .int .i64 0, .int .i64 0, .int .u64 0, .int .i64 0, .slice none 0 0] 44)).heap.size from blk_lt HEV.out)
  have HSZ2 := Aside.mk (show ((w.alloc (.cells #[.int .i64 6, .int .i64 cn, .slice A cd.length C] 39)).alloc (.cells #[.int .i64 0, .int .i64 0, .int .i64 0, .int .i64 0, .int .u64 0, .int .i64 0, .slice none 0 0] 44)).heap.size = w.heap.size + 2 by simp)
  generalize (w.alloc (.cells #[.int .i64 6, .int .i64 cn, .slice A cd.length C] 39)).alloc (.cells #[.int .i64 0, .int .i64 0, .int .i64 0, .int .i64 0, .int .u64 0, .int .i64 0, .slice none 0 0] 44) = w1 at *
  obtain ⟨q, eH, _, hh, _⟩ := HM1.out.hand t HTT.out
  rw [HHR.out] at hh
  have HQ := Aside.mk eH
  have c8 := HM1.out.cells.2.2.2.2.2.2.2.2
  rw [eH, ← HNN.out] at c8
  have a0 := hh 0 _ rfl
  rw [Nat.add_zero] at a0
  have a1 := hh 1 _ rfl
  have a2 := hh 2 _ rfl
  have a3 := hh 3 _ rfl
  have a4 := hh 4 _ rfl
  have a5 := hh 5 _ rfl
  have a6 := hh 6 _ rfl
  clear hh eH
  go_upto_region 2 with (fail)
  clear a0 a1 a2 a3 a4 a5 a6 c8
  have hbA := below_alloc (Below.refl w1.heap.size w1) (.cells #[.int .i64 cx.cap, .bool false, .bool false, .int .u64 0, .int .i64 0, .int .i64 gv, .int .i64 sv] 81)
  have HHB := Aside.mk (heap_alloc_new w1 (.cells #[.int .i64 cx.cap, .bool false, .bool false, .int .u64 0, .int .i64 0, .int .i64 gv, .int .i64 sv] 81))
  have HC := Aside.mk ((CurR.start HM1.out (below_low HB0.out H00.out)).below hbA)
  have HY1 := HY
  have HEV1 := HEV
  replace HY := Aside.mk (blk_below HY.out hbA)
  have HNO := Aside.mk (show ¬ OwnB (rowsR k cx st) B w1.heap.size from fun ho => absurd (HM1.out.x.lt ho) (Nat.lt_irrefl _))
  have HOL := Aside.mk (show ∀ q, OwnB (rowsR k cx st) B q → q < w1.heap.size from fun q ho => HM1.out.x.lt ho)
  have HGL := Aside.mk (Nat.le_refl w1.heap.size)
  clear hbA HEV
  generalize hgh : w1.heap.size = gh at *
  have HGH := Aside.mk HSZ2.out
  have HGE := Aside.mk hgh
  generalize w1.alloc (.cells #[.int .i64 cx.cap, .bool false, .bool false, .int .u64 0, .int .i64 0, .int .i64 gv, .int .i64 sv] 81) = w2 at *
  clear hgh HSZ2 HSZ HGL
  obtain ⟨y0, y1, y2⟩ := cell3 HY.out
  have c3 := HC.out.m.cells.2.2.2.1
  have ew2 : wrap64 ((t : Int) - (cx.prod : Int)) = (kc : Int) := by rw [w64 (by have := HM1.out.s.p4; have := HM1.out.s.u6; have := HK.out; have := HTE.out; omega)]; have := HTE.out; omega
  have ew : IntKind.i64.wrap ((t : Int) - (cx.prod : Int)) = (kc : Int) := by rw [wrapE]; exact ew2
  have HLL := Aside.mk (limit_le HM1.out.wf kc)
  go_wp2_with fail
  refine (r_limit HC.out.m kc HK.out).mono ?_
  rintro r w3 ⟨rfl, hb⟩
  clear y0 y1 y2 c3 ew ew2
  replace HC := Aside.mk (HC.out.below hb)
  replace HY := Aside.mk (blk_below HY.out hb)
  have HB3 := Aside.mk (blk_below HHB.out hb)
  clear hb
  generalize hlm : limitL cx st kc = lm at *
  have HLM := Aside.mk hlm
  clear hlm
  obtain ⟨b0, b1, b2, b3, b4, b5, b6⟩ := cell7s HB3.out
  have fz6 := blk_frozen HB3.out 6
  have h01 := Nat.le_trans H00.out.size HB0.out.size
  have H01 := Aside.mk h01
  clear h01
  go_upto_region 6 with (fail)
  clear b0 b1 b2 b3 b4 b5 b6 fz6
  replace HC := Aside.mk (HC.out.setF HNO.out (by rw [← HGE.out]; exact H01.out) HNO.out (.inr (Nat.le_of_eq HGE.out)) 6 (.int .i64 lm))
  replace HY := Aside.mk (blk_far HY.out (p := ⟨gh, 6, none⟩) (show w.heap.size ≠ gh by have := HGH.out; omega) (.int .i64 lm))
  replace HB3 := Aside.mk (blk_put (cs' := #[.int .i64 cx.cap, .bool false, .bool false, .int .u64 0, .int .i64 0, .int .i64 gv, .int .i64 lm]) HB3.out 6 (.int .i64 lm) rfl)
  generalize w3.setCell ⟨gh, 6, none⟩ (.int .i64 lm) = w4 at *
  obtain ⟨b0, b1, b2, b3, b4, b5, b6⟩ := cell7s HB3.out
  have HBDL := Aside.mk (show 0 ≤ gv ∧ gv ≤ sv ∧ sv ≤ lm ∧ lm ≤ 64000 by
    have := HM1.out.wf.g0 kc; have := HM1.out.wf.gs kc; have := HM1.out.wf.sl kc; have := HM1.out.wf.tk; have := HM1.out.i; have := HGV.out; have := HSV.out; have := HLM.out; have := HLL.out; omega)
  have ew2 : wrap64 (lm - gv) = lm - gv := w64 (by have := HBDL.out; omega)
  have ew : IntKind.i64.wrap (lm - gv) = lm - gv := by rw [wrapE]; exact ew2
  go_upto_region 7 with (fail)
  clear b0 b1 b2 b3 b4 b5 b6 ew ew2
  have HCK := Aside.mk (show CK w0 w w1 B k cx lp st i gh w4.heap.size _ _ _ (.slice none 0 0) [] (w4.alloc (.cells #[.int .i64 0, .int .i64 0, .int .i64 0, .int .i64 (lm - gv), .int .u64 0, .int .i64 0, .slice none 0 0] 44)) from
    have hb := below_alloc (Below.refl w4.heap.size w4) (.cells #[.int .i64 0, .int .i64 0, .int .i64 0, .int .i64 (lm - gv), .int .u64 0, .int .i64 0, .slice none 0 0] 44)
    { c := HC.out.below hb, y := blk_below HY.out hb, h := blk_below HB3.out hb, x := heap_alloc_new w4 (.cells #[.int .i64 0, .int .i64 0, .int .i64 0, .int .i64 (lm - gv), .int .u64 0, .int .i64 0, .slice none 0 0] 44), d := Kd.R_nil _ _ _ _ _, nx := fun ho => by have := HOL.out _ ho; have := HC.out.t.s; have := HGE.out; omega, nh := HNO.out, gg := Nat.le_of_eq HGE.out, lo := fun q hq => by have := HOL.out q hq; have := HGE.out; omega, gx := HC.out.t.s })
  clear HC HY HB3
  have HGE4 := Aside.mk (show gh < w4.heap.size by have := HCK.out.gx; have := HGE.out; exact Nat.lt_of_le_of_ne (by omega) (fun e => blk_ne HCK.out.h HCK.out.x (by decide) e))
  generalize w4.heap.size = ge at *
  generalize w4.alloc (.cells #[.int .i64 0, .int .i64 0, .int .i64 0, .int .i64 (lm - gv), .int .u64 0, .int .i64 0, .slice none 0 0] 44) = w5 at *
  obtain ⟨y0, y1, y2⟩ := cell3 HCK.out.y
  obtain ⟨gn, hgn⟩ : ∃ gn : Nat, gv = (gn : Int) := ⟨gv.toNat, by have := HBDL.out; omega⟩
  subst hgn
  obtain ⟨rn, hrn⟩ : ∃ rn : Nat, min cn (lm - (gn : Int)) = rn := ⟨(min cn (lm - (gn : Int))).toNat, by have := HBDL.out; have := HN.out; omega⟩
  have HRN := Aside.mk (show (gn : Int) + rn ≤ lm ∧ lm ≤ st.put.length ∧ st.put.length ≤ 64000 from by have := HBDL.out; have := HLM.out; have := HLL.out; have := HM1.out.wf.tk; have := HM1.out.i; omega)
  rw [hrn, Int.toNat_natCast, Int.toNat_natCast] at HEQ
  obtain ⟨x0, x1, x2, x3, x4, x5, x6⟩ := Mo.cell7 HCK.out.x
  have fz3 := blk_frozen HCK.out.x 3
  go_upto_region 9 with (fail)
  rw [show (if cn < lm - (gn : Int) then cn else lm - (gn : Int)) = (rn : Int) from by rw [← hrn]; split <;> omega]
  replace HCK := Aside.mk (HCK.out.setX H01.out 3 (.int .i64 (rn : Int)) #[.int .i64 0, .int .i64 0, .int .i64 0, .int .i64 (rn : Int), .int .u64 0, .int .i64 0, .slice none 0 0] rfl)
  clear x0 x1 x2 x3 x4 x5 x6 fz3 y0 y1 y2 hrn
  generalize w5.setCell ⟨ge, 3, none⟩ (.int .i64 (rn : Int)) = w5 at *
  obtain ⟨y0, y1, y2⟩ := cell3 HCK.out.y
  obtain ⟨x0, x1, x2, x3, x4, x5, x6⟩ := Mo.cell7 HCK.out.x
  obtain ⟨b0, b1, b2, b3, b4, b5, b6⟩ := cell7s HCK.out.h
  have ew : IntKind.i64.wrap ((gn : Int) + (rn : Int)) = (gn : Int) + rn := by rw [wrapE]; exact w64 (by have := HRN.out; omega)
  have ew2 : wrap64 ((gn : Int) + (rn : Int)) = (gn : Int) + rn := by rw [← wrapE]; exact ew
  by_cases h0 : rn = 0
  · have HZ := Aside.mk h0
    have s1 : decide ((0 : Int) < (rn : Int)) = false := decide_eq_false (by omega)
    have s2 : decide (0 < rn) = false := decide_eq_false (by omega)
    clear h0
    go_wp2_with fail
    clear s1 s2
    go_wp2_with fail
    clear y0 y1 y2 x0 x1 x2 x3 x4 x5 x6 b0 b1 b2 b3 b4 b5 b6
    go_loopw [9] (fun x wr => ∃ j : Nat, x = .int .i64 ((gn + j : Nat) : Int) ∧ j ≤ rn ∧ Mo.Aside (∃ A1 C1, CK w0 w w1 B k cx lp st i gh ge #[.int .i64 6, .int .i64 cn, .slice A cd.length C] #[.int .i64 cx.cap, .bool false, .bool false, .int .u64 0, .int .i64 0, .int .i64 (gn : Int), .int .i64 lm] #[.int .i64 0, .int .i64 0, .int .i64 0, .int .i64 (rn : Int), .int .u64 0, .int .i64 0, .slice A1 j C1] (.slice A1 j C1) ((st.data.drop gn).take j) wr)) (fun x _ => gn + rn - (intOf x).toNat)
    case atStart => exact ⟨0, rfl, Nat.zero_le _, ⟨none, 0, HCK.out⟩⟩
    case round =>
      clear HCK
      obtain ⟨j, rfl, hj, HR⟩ := hrel
      obtain ⟨A1, C1, hck⟩ := HR.out
      have HCK := Aside.mk hck
      clear hck HR
      obtain ⟨m, hm⟩ : ∃ m, m = gn + j := ⟨_, rfl⟩
      rw [← hm]
      obtain ⟨y0, y1, y2⟩ := cell3 HCK.out.y
      obtain ⟨x0, x1, x2, x3, x4, x5, x6⟩ := Mo.cell7 HCK.out.x
      obtain ⟨b0, b1, b2, b3, b4, b5, b6⟩ := cell7s HCK.out.h
      by_cases hlt : j < rn
      rotate_left
      · obtain rfl : j = rn := by omega
        have t1 : decide ((m : Int) < (gn : Int) + (j : Int)) = false := decide_eq_false (by omega)
        have t2 : decide (m < gn + j) = false := decide_eq_false (by omega)
        have fz5 := blk_frozen HCK.out.h 5
        clear hj hlt hm
        go_upto_region 16 with (fail)
        replace HCK := Aside.mk (HCK.out.setH H01.out 5 (.int .i64 ((gn : Int) + (j : Int))) #[.int .i64 cx.cap, .bool false, .bool false, .int .u64 0, .int .i64 0, .int .i64 ((gn : Int) + (j : Int)), .int .i64 lm] rfl)
        clear t1 t2 fz5 y0 y1 y2 x0 x1 x2 x3 x4 x5 x6 b0 b1 b2 b3 b4 b5 b6 ew ew2
        generalize wr.setCell ⟨gh, 5, none⟩ (.int .i64 ((gn : Int) + (j : Int))) = w5 at *
        have HCAP := Aside.mk (show j ≤ C1 from (Kd.R_reads' HCK.out.d).2.1)
        have c8 := HCK.out.c.m.cells.2.2.2.2.2.2.2.2
        rw [HQ.out, ← HNN.out] at c8
        have HD8 := Aside.mk c8
        clear c8
        go_upto_region 16 with (fail)
        refine start_ (n := 8) (S := fun w' => w'.cell? ⟨B, 8, none⟩ = some (.slice (some ⟨q, 0, none⟩) nn k.hc) ∧ w'.cell? ⟨gh, 0, none⟩ = some (.int .i64 cx.cap) ∧ w'.cell? ⟨gh, 1, none⟩ = some (.bool false) ∧ w'.cell? ⟨gh, 2, none⟩ = some (.bool false) ∧ w'.cell? ⟨gh, 3, none⟩ = some (.int .u64 0) ∧ w'.cell? ⟨gh, 4, none⟩ = some (.int .i64 0) ∧ w'.cell? ⟨gh, 5, none⟩ = some (.int .i64 ((gn : Int) + (j : Int))) ∧ w'.cell? ⟨gh, 6, none⟩ = some (.int .i64 lm) ∧ True) (ds := [7]) (bm 8 0) (by kernel_rfl) rfl rfl ⟨((below_drew1 (Below.refl _ _)).cell (World.block_lt_of_cell? _ _ HD8.out)).trans HD8.out, (blk_cell (blk_drew HCK.out.h) 0).trans rfl, (blk_cell (blk_drew HCK.out.h) 1).trans rfl, (blk_cell (blk_drew HCK.out.h) 2).trans rfl, (blk_cell (blk_drew HCK.out.h) 3).trans rfl, (blk_cell (blk_drew HCK.out.h) 4).trans rfl, (blk_cell (blk_drew HCK.out.h) 5).trans rfl, (blk_cell (blk_drew HCK.out.h) 6).trans rfl, trivial⟩ (fun hHeld => ?_)
        replace HCK := Aside.mk (HCK.out.below (below_drew1 (Below.refl _ _)))
        have HC3 := Aside.mk HCK.out.c
        generalize w5.drew = w6 at *
        refine pu_ 0 (bm 8 1) ?_
        refine pu_ 1 (bm 8 3) ?_
        refine pu_ 2 (bm 8 7) ?_
        refine ta_ 3 (bm 8 15) hHeld ?_
        refine pu_ 4 (bm 8 31) ?_
        refine ta_ 5 (bm 8 63) hHeld ?_
        refine pu_ 6 (bm 8 127) ?_
        obtain ⟨q5, eH5, _, hh, hfr⟩ := HC3.out.m.hand t HTT.out
        obtain rfl : q5 = q := by rw [HQ.out] at eH5; injection eH5 with h1; injection h1 with h1; exact h1.symm
        have HQ5 := Aside.mk eH5
        obtain ⟨v0, v1, v2, v3, v4, v5, v6, hv7⟩ := hR_shape cx st t
        rw [hv7] at hh
        have a0 := hh 0 _ rfl
        rw [Nat.add_zero] at a0
        have a1 := hh 1 _ rfl
        have a2 := hh 2 _ rfl
        have a3 := hh 3 _ rfl
        have a4 := hh 4 _ rfl
        have a5 := hh 5 _ rfl
        have a6 := hh 6 _ rfl
        have fz0 := hfr (t * 7)
        have fz1 := hfr (t * 7 + 1)
        have fz2 := hfr (t * 7 + 2)
        have fz3 := hfr (t * 7 + 3)
        have fz4 := hfr (t * 7 + 4)
        have fz5 := hfr (t * 7 + 5)
        have fz6 := hfr (t * 7 + 6)
        clear hh hfr eH5 hv7
        refine last_ (i := 7) (N := none) (bm 8 255) rfl rfl (by kernel_rfl) (by decide) (fun K hK => ?_)
        refine skip_ (w1 := ?_) (by rfl) rfl ?_ ?_
        rotate_left
        · go_simp
          rfl
        refine hK.out _ _ ?_
        clear hK K
        have hk1 : kc < st.gate.length := by rw [HM1.out.wf.lg]; exact HK.out
        have hk2 : kc < st.saw.length := by rw [HM1.out.wf.ls]; exact HK.out
        have hwf := (HC3.out.m.wf.see kc ((gn : Int) + (j : Int)) lm (by have := HGV.out; omega) (by have := HRN.out; omega) (by have := HLM.out; omega)).mono (Nat.le_succ i)
        obtain ⟨st9, hs9⟩ : ∃ s : Ls, s = { st with gate := st.gate.set kc (((gn : Int) + (j : Int))), saw := st.saw.set kc lm } := ⟨_, rfl⟩
        have hst9 : st9.held = st.held ∧ st9.put = st.put ∧ st9.gate = st.gate.set kc (((gn : Int) + (j : Int))) ∧ st9.saw = st.saw.set kc (lm) ∧ st9.put = st.put ∧ st9.data = st.data ∧ st9.slots = st.slots := by rw [hs9]; exact ⟨rfl, rfl, rfl, rfl, rfl, rfl, rfl⟩
        rw [← hs9] at hwf
        have hne := hR_seen cx st st9 kc ((gn : Int) + (j : Int)) lm hk1 hk2 hst9.2.2.1 hst9.2.2.2.1
        rw [← HTE.out] at hne
        obtain ⟨w7, hw7, hP6⟩ := HC3.out.m.setHand HC3.out.t.b HQ5.out t HTT.out st9 hwf HI.out hst9.2.2.2.2 (by rw [HTE.out]; exact hR_see cx st st9 kc ((gn : Int) + (j : Int)) lm hst9.1 hst9.2.2.1 hst9.2.2.2.1) hne (by rw [hne]; exact one7)
        rw [← hw7]
        have HX7 := Aside.mk (TKR.box2 (by obtain ⟨_, _, t7, _⟩ := hP6; exact t7) HCK.out.x HCK.out.nx)
        have HDV := Aside.mk (show Kd.F (Kd.int .i64) w7 (fun q => w1.heap.size ≤ q) A1 j ((st.data.drop gn).take j) from by
          obtain ⟨_, _, t7, _⟩ := hP6
          exact Kd.F_step (Kd.F_mono (Kd.R_F (Kd.R_tight rfl HCK.out.d)) (fun q hq => Kd.R_base HCK.out.d q hq.symm)) (fun q hq hl => t7.p q hl (fun ho => by have := HCK.out.lo q ho; omega)))
        obtain ⟨k6, hc6, _⟩ := HC3.out.step hP6
        have HC6 := Aside.mk hc6
        clear hw7 hP6 hc6 hne hwf hk1 hk2 a0 a1 a2 a3 a4 a5 a6 fz0 fz1 fz2 fz3 fz4 fz5 fz6 hst9
        have HS9 := Aside.mk hs9
        clear hs9
        refine done_ (by kernel_rfl) ?_
        clear hHeld HD8 HC3 HCK
        obtain ⟨x0, x1, x2, x3, x4, x5, x6⟩ := Mo.cell7 HX7.out
        have HE7 := Aside.mk (TKR.box HC6.out.t HM1.out HEV1.out (by decide))
        obtain ⟨e0, e1, e2, e3, e4, e5, e6⟩ := Mo.cell7 HE7.out
        have fz0 := blk_frozen HE7.out 0
        have fz1 := blk_frozen HE7.out 1
        have fz2 := blk_frozen HE7.out 2
        have fz3 := blk_frozen HE7.out 3
        have fz4 := blk_frozen HE7.out 4
        have fz5 := blk_frozen HE7.out 5
        have fz6 := blk_frozen HE7.out 6
        obtain ⟨w9, hw9, hP9, hE9⟩ := RPost.set7 (HC6.out.post.up H00.out HB0.out) HE7.out (Nat.le_succ _) H00.out.size (.int .i64 0) (.int .i64 0) (.int .i64 0) (.int .i64 (j : Int)) (.int .u64 0) (.int .i64 0) (.slice A1 j C1)
        have HRE := Aside.mk hE9
        have HRP := Aside.mk hP9
        have HDW := Aside.mk (Kd.F_step HDV.out (W1 := w9) (fun q hq _ => by rw [hw9, set7_far _ _ _ _ _ _ _ (show q ≠ w.heap.size + 1 by have := HGE.out; have := HGH.out; omega)]))
        clear hP9 hE9
        go_wp2
        rw [← hw9]
        refine bodyPost_ret (results_cell_row rfl _ _ (w.heap.size + 1) 44 #[.int .i64 0, .int .i64 0, .int .i64 0, .int .i64 (j : Int), .int .u64 0, .int .i64 0, .slice A1 j C1] (0, 0) _ rfl HRE.out Tryd.underlying44 rfl (by kernel_rfl)) rfl ?_
        have hE : consumeL cx lp st kc ⟨6, cn, cd⟩ = ({ st with saw := st.saw.set kc lm }, ev0) := by rw [HEQ.out, if_pos (by have := HZ.out; omega)]
        have hj0 : j = 0 := HZ.out
        subst hj0
        have HS8 := Aside.mk (show st9 = { st with saw := st.saw.set kc lm } by rw [HS9.out, show st.gate.set kc ((gn : Int) + ((0 : Nat) : Int)) = st.gate from by rw [show (gn : Int) + ((0 : Nat) : Int) = st.gate.getD kc 0 by rw [HGV.out]; omega, set_self]])
        refine ⟨A1, C1, by rw [hE] <;> rfl, by rw [hE]; exact Nat.zero_le _, by rw [hE]; exact Kd.F_mono HDW.out (fun q hq => by have := HGE.out; have := HGH.out; omega), by rw [hE]; have h9 := HRP.out; rw [HS8.out] at h9; exact h9⟩
      have HJ := Aside.mk hlt
      have HME := Aside.mk hm
      have t1 : decide ((m : Int) < (gn : Int) + (rn : Int)) = true := decide_eq_true (by omega)
      have t2 : decide (m < gn + rn) = true := decide_eq_true (by omega)
      have t3 : (m : Int) < (gn : Int) + (rn : Int) := by omega
      have HMB := Aside.mk (show m < st.put.length by have := HRN.out; omega)
      have em := i1 (show m < 4611686018427387904 by have := HMB.out; have := HRN.out; omega)
      clear hm hlt hj
      go_upto_region 14 with (fail)
      clear t1 t2 t3 y0 y1 y2 x0 x1 x2 x3 x4 x5 x6 b0 b1 b2 b3 b4 b5 b6
      replace HCK := Aside.mk (HCK.out.below (below_drew1 (Below.refl _ _)))
      obtain ⟨qa, eA, _, _, dd, _⟩ := HCK.out.c.m.all m HMB.out
      have d6 := HCK.out.c.m.cells.2.2.2.2.2.2.1
      rw [eA] at d6
      have HEA := Aside.mk eA
      have g1 : decide ((m : Int) < (st.put.length : Int)) = true := decide_eq_true (by have := HMB.out; omega)
      have g2 : (m : Int) < (st.put.length : Int) := by have := HMB.out; omega
      have g3 : decide (m < st.put.length) = true := decide_eq_true HMB.out
      have HTO := Aside.mk (take_one st.data gn j (by rw [HLD.out, ← HME.out]; exact HMB.out))
      rw [← HME.out] at HTO
      have HALL := Aside.mk (fun (W : World) (h : Rm w0.heap.size W B k cx lp st i) => show W.cell? ⟨B, 6, none⟩ = some (.slice (some ⟨qa, 0, none⟩) st.put.length k.ac) ∧ W.cell? ⟨qa, m * 2 + 1, none⟩ = some (.int .i64 (st.data.getD m 0)) from by
        obtain ⟨qb, e, _, _, h4, _⟩ := h.all m HMB.out
        rw [HEA.out] at e
        injection e with e
        injection e with e
        subst e
        have h6 := h.cells.2.2.2.2.2.2.1
        rw [HEA.out] at h6
        exact ⟨h6, h4⟩)
      generalize st.data.getD m 0 = dj at *
      clear eA
      refine start_ (n := 14) (S := fun w' => w'.cell? ⟨ge, 6, none⟩ = some (.slice A1 j C1) ∧ w'.cell? ⟨B, 6, none⟩ = some (.slice (some ⟨qa, 0, none⟩) st.put.length k.ac) ∧ w'.cell? ⟨qa, m * 2 + 1, none⟩ = some (.int .i64 dj) ∧ True) (ds := [13]) (bm 14 0) (by kernel_rfl) rfl rfl ⟨(blk_cell HCK.out.x 6).trans rfl, (HALL.out _ HCK.out.c.m).1, (HALL.out _ HCK.out.c.m).2, trivial⟩ (fun hHeld => ?_)
      generalize wr.drew = wd at *
      refine pu_ 0 (bm 14 1) ?_
      refine ta_ 1 (bm 14 3) hHeld ?_
      refine pu_ 2 (bm 14 7) ?_
      refine pu_ 3 (bm 14 15) ?_
      refine pu_ 4 (bm 14 31) ?_
      refine ta_ 5 (bm 14 63) hHeld ?_
      refine pu_ 6 (bm 14 127) ?_
      refine pu_ 7 (bm 14 255) ?_
      refine pu_ 8 (bm 14 511) ?_
      refine ta_ 9 (bm 14 1023) hHeld ?_
      refine one_ (i := 10) (N := some 88) (bm 14 2047) rfl rfl (by kernel_rfl) (by decide) (fun K hK => ?_)
      refine value_ (v := .slice (some ⟨wd.heap.size, 0, none⟩) 1 1) (w1 := wd.alloc (.cells #[.int .i64 dj] 3)) (by rfl) rfl ?_ ?_
      · go_simp
      have hcb := HCK.out.below (below_alloc (Below.refl wd.heap.size wd) (.cells #[.int .i64 dj] 3))
      refine hK.out _ _ ⟨(blk_cell hcb.x 6).trans rfl, (HALL.out _ hcb.c.m).1, (HALL.out _ hcb.c.m).2, trivial⟩ (fun hHeld => ?_)
      clear hcb
      clear hK K
      refine norm_ (a' := ?_) ?_ ?_
      rotate_left
      · show Act.put _ (some 88) _ = _
        simp only [Act.put, List.setIfInBounds_toArray, List.set_cons_zero, List.set_cons_succ, i64_w, i32_w]
        rfl
      refine one_ (i := 11) (N := some 89) (bm 14 4095) rfl rfl (by kernel_rfl) (by decide) (fun K hK => ?_)
      refine Kd.R_append_step (Kd.int .i64) (w0 := wd) w1.heap.size (by rfl) (.tmp 79) (.tmp 88) 37 3 (.int .i64 0) 8 rfl und_is inf_i rfl (by decide) (by decide) (.slice A1 j C1) ((st.data.drop gn).take j) dj [.int .i64 dj] (fun _ => True) (fun _ => False) rfl rfl rfl (fun _ h => h.elim) (fun _ _ => trivial) HCK.out.d (Below.refl _ _) HCK.out.c.t.s (by have := HRN.out; have := HJ.out; have : ((st.data.drop gn).take j).length ≤ j := List.length_take_le _ _; omega) ?_
      intro v1 wn hr hz1 hg hz2
      clear hz1 hz2
      rw [HTO.out] at hr
      obtain ⟨A2, C2, ev⟩ := Kd.R_slice hr
      have hl : ((st.data.drop gn).take (j + 1)).length = j + 1 := by rw [List.length_take, List.length_drop, HLD.out]; have := HMB.out; have := HME.out; omega
      rw [hl] at ev
      subst ev
      clear hl
      replace HCK := Aside.mk (HCK.out.app H01.out hr hg)
      clear hr hg
      refine hK.out _ _ ⟨(blk_cell HCK.out.x 6).trans rfl, (HALL.out _ HCK.out.c.m).1, (HALL.out _ HCK.out.c.m).2, trivial⟩ (fun hHeld => ?_)
      clear hK K
      refine norm_ (a' := ?_) ?_ ?_
      rotate_left
      · show Act.put _ (some 89) _ = _
        simp only [Act.put, List.setIfInBounds_toArray, List.set_cons_zero, List.set_cons_succ, i64_w, i32_w]
        rfl
      refine pu_ 12 (bm 14 8191) ?_
      have x6 := (blk_cell HCK.out.x 6).trans rfl
      have fz6 := blk_frozen HCK.out.x 6
      refine last_ (i := 13) (N := none) (bm 14 16383) rfl rfl (by kernel_rfl) (by decide) (fun K hK => ?_)
      refine skip_ (w1 := ?_) (by rfl) rfl ?_ ?_
      rotate_left
      · go_simp
        rfl
      refine hK.out _ _ ?_
      clear hK K
      refine done_ (by kernel_rfl) ?_
      clear hHeld HALL d6 dd
      replace HCK := Aside.mk (HCK.out.setX H01.out 6 (.slice A2 (j + 1) C2) #[.int .i64 0, .int .i64 0, .int .i64 0, .int .i64 (rn : Int), .int .u64 0, .int .i64 0, .slice A2 (j + 1) C2] rfl)
      clear x6 fz6 g1 g2 g3
      generalize wn.setCell ⟨ge, 6, none⟩ (.slice A2 (j + 1) C2) = w9 at *
      go_wp2_with fail
      go_roundw
      case rel => exact ⟨j + 1, by rw [HME.out]; first | rfl | simp [Nat.add_assoc] | (exact congrArg (Value.int .i64) (by omega)), HJ.out, ⟨A2, C2, HCK.out⟩⟩
      case measure =>
        simp only [intOf, tn1, Int.toNat_natCast]
        have := HJ.out
        have := HME.out
        omega
  have HNZ := Aside.mk h0
  have s1 : decide ((0 : Int) < (rn : Int)) = true := decide_eq_true (by omega)
  have s2 : decide (0 < rn) = true := decide_eq_true (by omega)
  have s3 : (0 : Int) < (rn : Int) := by omega
  clear h0
  go_wp2_with fail
  refine (r_pos HCK.out.c.m (gn : Int)).mono ?_
  rintro r w6 ⟨rfl, hb⟩
  replace HCK := Aside.mk (HCK.out.below hb)
  clear hb s1 s2 s3 y0 y1 y2 x0 x1 x2 x3 x4 x5 x6 b0 b1 b2 b3 b4 b5 b6
  obtain ⟨x0, x1, x2, x3, x4, x5, x6⟩ := Mo.cell7 HCK.out.x
  have fz4 := blk_frozen HCK.out.x 4
  go_upto_region 11 with (fail)
  replace HCK := Aside.mk (HCK.out.setX H01.out 4 (.int .u64 (lp.pos (gn : Int))) #[.int .i64 0, .int .i64 0, .int .i64 0, .int .i64 (rn : Int), .int .u64 (lp.pos (gn : Int)), .int .i64 0, .slice none 0 0] rfl)
  clear x0 x1 x2 x3 x4 x5 x6 fz4
  generalize w6.setCell ⟨ge, 4, none⟩ (.int .u64 (lp.pos (gn : Int))) = w7 at *
  obtain ⟨y0, y1, y2⟩ := cell3 HCK.out.y
  obtain ⟨x0, x1, x2, x3, x4, x5, x6⟩ := Mo.cell7 HCK.out.x
  obtain ⟨b0, b1, b2, b3, b4, b5, b6⟩ := cell7s HCK.out.h
  go_wp2_with fail
  clear y0 y1 y2 x0 x1 x2 x3 x4 x5 x6 b0 b1 b2 b3 b4 b5 b6
  go_loopw [9] (fun x wr => ∃ j : Nat, x = .int .i64 ((gn + j : Nat) : Int) ∧ j ≤ rn ∧ Mo.Aside (∃ A1 C1, CK w0 w w1 B k cx lp st i gh ge #[.int .i64 6, .int .i64 cn, .slice A cd.length C] #[.int .i64 cx.cap, .bool false, .bool false, .int .u64 0, .int .i64 0, .int .i64 (gn : Int), .int .i64 lm] #[.int .i64 0, .int .i64 0, .int .i64 0, .int .i64 (rn : Int), .int .u64 (lp.pos (gn : Int)), .int .i64 0, .slice A1 j C1] (.slice A1 j C1) ((st.data.drop gn).take j) wr)) (fun x _ => gn + rn - (intOf x).toNat)
  case atStart => exact ⟨0, rfl, Nat.zero_le _, ⟨none, 0, HCK.out⟩⟩
  case round =>
    clear HCK
    obtain ⟨j, rfl, hj, HR⟩ := hrel
    obtain ⟨A1, C1, hck⟩ := HR.out
    have HCK := Aside.mk hck
    clear hck HR
    obtain ⟨m, hm⟩ : ∃ m, m = gn + j := ⟨_, rfl⟩
    rw [← hm]
    obtain ⟨y0, y1, y2⟩ := cell3 HCK.out.y
    obtain ⟨x0, x1, x2, x3, x4, x5, x6⟩ := Mo.cell7 HCK.out.x
    obtain ⟨b0, b1, b2, b3, b4, b5, b6⟩ := cell7s HCK.out.h
    by_cases hlt : j < rn
    rotate_left
    · obtain rfl : j = rn := by omega
      have t1 : decide ((m : Int) < (gn : Int) + (j : Int)) = false := decide_eq_false (by omega)
      have t2 : decide (m < gn + j) = false := decide_eq_false (by omega)
      have fz5 := blk_frozen HCK.out.h 5
      clear hj hlt hm
      go_upto_region 16 with (fail)
      replace HCK := Aside.mk (HCK.out.setH H01.out 5 (.int .i64 ((gn : Int) + (j : Int))) #[.int .i64 cx.cap, .bool false, .bool false, .int .u64 0, .int .i64 0, .int .i64 ((gn : Int) + (j : Int)), .int .i64 lm] rfl)
      clear t1 t2 fz5 y0 y1 y2 x0 x1 x2 x3 x4 x5 x6 b0 b1 b2 b3 b4 b5 b6 ew ew2
      generalize wr.setCell ⟨gh, 5, none⟩ (.int .i64 ((gn : Int) + (j : Int))) = w5 at *
      have HCAP := Aside.mk (show j ≤ C1 from (Kd.R_reads' HCK.out.d).2.1)
      have c8 := HCK.out.c.m.cells.2.2.2.2.2.2.2.2
      rw [HQ.out, ← HNN.out] at c8
      have HD8 := Aside.mk c8
      clear c8
      go_upto_region 16 with (fail)
      refine start_ (n := 8) (S := fun w' => w'.cell? ⟨B, 8, none⟩ = some (.slice (some ⟨q, 0, none⟩) nn k.hc) ∧ w'.cell? ⟨gh, 0, none⟩ = some (.int .i64 cx.cap) ∧ w'.cell? ⟨gh, 1, none⟩ = some (.bool false) ∧ w'.cell? ⟨gh, 2, none⟩ = some (.bool false) ∧ w'.cell? ⟨gh, 3, none⟩ = some (.int .u64 0) ∧ w'.cell? ⟨gh, 4, none⟩ = some (.int .i64 0) ∧ w'.cell? ⟨gh, 5, none⟩ = some (.int .i64 ((gn : Int) + (j : Int))) ∧ w'.cell? ⟨gh, 6, none⟩ = some (.int .i64 lm) ∧ True) (ds := [7]) (bm 8 0) (by kernel_rfl) rfl rfl ⟨((below_drew1 (Below.refl _ _)).cell (World.block_lt_of_cell? _ _ HD8.out)).trans HD8.out, (blk_cell (blk_drew HCK.out.h) 0).trans rfl, (blk_cell (blk_drew HCK.out.h) 1).trans rfl, (blk_cell (blk_drew HCK.out.h) 2).trans rfl, (blk_cell (blk_drew HCK.out.h) 3).trans rfl, (blk_cell (blk_drew HCK.out.h) 4).trans rfl, (blk_cell (blk_drew HCK.out.h) 5).trans rfl, (blk_cell (blk_drew HCK.out.h) 6).trans rfl, trivial⟩ (fun hHeld => ?_)
      replace HCK := Aside.mk (HCK.out.below (below_drew1 (Below.refl _ _)))
      have HC3 := Aside.mk HCK.out.c
      generalize w5.drew = w6 at *
      refine pu_ 0 (bm 8 1) ?_
      refine pu_ 1 (bm 8 3) ?_
      refine pu_ 2 (bm 8 7) ?_
      refine ta_ 3 (bm 8 15) hHeld ?_
      refine pu_ 4 (bm 8 31) ?_
      refine ta_ 5 (bm 8 63) hHeld ?_
      refine pu_ 6 (bm 8 127) ?_
      obtain ⟨q5, eH5, _, hh, hfr⟩ := HC3.out.m.hand t HTT.out
      obtain rfl : q5 = q := by rw [HQ.out] at eH5; injection eH5 with h1; injection h1 with h1; exact h1.symm
      have HQ5 := Aside.mk eH5
      obtain ⟨v0, v1, v2, v3, v4, v5, v6, hv7⟩ := hR_shape cx st t
      rw [hv7] at hh
      have a0 := hh 0 _ rfl
      rw [Nat.add_zero] at a0
      have a1 := hh 1 _ rfl
      have a2 := hh 2 _ rfl
      have a3 := hh 3 _ rfl
      have a4 := hh 4 _ rfl
      have a5 := hh 5 _ rfl
      have a6 := hh 6 _ rfl
      have fz0 := hfr (t * 7)
      have fz1 := hfr (t * 7 + 1)
      have fz2 := hfr (t * 7 + 2)
      have fz3 := hfr (t * 7 + 3)
      have fz4 := hfr (t * 7 + 4)
      have fz5 := hfr (t * 7 + 5)
      have fz6 := hfr (t * 7 + 6)
      clear hh hfr eH5 hv7
      refine last_ (i := 7) (N := none) (bm 8 255) rfl rfl (by kernel_rfl) (by decide) (fun K hK => ?_)
      refine skip_ (w1 := ?_) (by rfl) rfl ?_ ?_
      rotate_left
      · go_simp
        rfl
      refine hK.out _ _ ?_
      clear hK K
      have hk1 : kc < st.gate.length := by rw [HM1.out.wf.lg]; exact HK.out
      have hk2 : kc < st.saw.length := by rw [HM1.out.wf.ls]; exact HK.out
      have hwf := (HC3.out.m.wf.see kc ((gn : Int) + (j : Int)) lm (by have := HGV.out; omega) (by have := HRN.out; omega) (by have := HLM.out; omega)).mono (Nat.le_succ i)
      obtain ⟨st9, hs9⟩ : ∃ s : Ls, s = { st with gate := st.gate.set kc (((gn : Int) + (j : Int))), saw := st.saw.set kc lm } := ⟨_, rfl⟩
      have hst9 : st9.held = st.held ∧ st9.put = st.put ∧ st9.gate = st.gate.set kc (((gn : Int) + (j : Int))) ∧ st9.saw = st.saw.set kc (lm) ∧ st9.put = st.put ∧ st9.data = st.data ∧ st9.slots = st.slots := by rw [hs9]; exact ⟨rfl, rfl, rfl, rfl, rfl, rfl, rfl⟩
      rw [← hs9] at hwf
      have hne := hR_seen cx st st9 kc ((gn : Int) + (j : Int)) lm hk1 hk2 hst9.2.2.1 hst9.2.2.2.1
      rw [← HTE.out] at hne
      obtain ⟨w7, hw7, hP6⟩ := HC3.out.m.setHand HC3.out.t.b HQ5.out t HTT.out st9 hwf HI.out hst9.2.2.2.2 (by rw [HTE.out]; exact hR_see cx st st9 kc ((gn : Int) + (j : Int)) lm hst9.1 hst9.2.2.1 hst9.2.2.2.1) hne (by rw [hne]; exact one7)
      rw [← hw7]
      have HX7 := Aside.mk (TKR.box2 (by obtain ⟨_, _, t7, _⟩ := hP6; exact t7) HCK.out.x HCK.out.nx)
      have HDV := Aside.mk (show Kd.F (Kd.int .i64) w7 (fun q => w1.heap.size ≤ q) A1 j ((st.data.drop gn).take j) from by
        obtain ⟨_, _, t7, _⟩ := hP6
        exact Kd.F_step (Kd.F_mono (Kd.R_F (Kd.R_tight rfl HCK.out.d)) (fun q hq => Kd.R_base HCK.out.d q hq.symm)) (fun q hq hl => t7.p q hl (fun ho => by have := HCK.out.lo q ho; omega)))
      obtain ⟨k6, hc6, _⟩ := HC3.out.step hP6
      have HC6 := Aside.mk hc6
      clear hw7 hP6 hc6 hne hwf hk1 hk2 a0 a1 a2 a3 a4 a5 a6 fz0 fz1 fz2 fz3 fz4 fz5 fz6 hst9
      have HS9 := Aside.mk hs9
      clear hs9
      refine done_ (by kernel_rfl) ?_
      clear hHeld HD8 HC3 HCK
      obtain ⟨x0, x1, x2, x3, x4, x5, x6⟩ := Mo.cell7 HX7.out
      have HE7 := Aside.mk (TKR.box HC6.out.t HM1.out HEV1.out (by decide))
      obtain ⟨e0, e1, e2, e3, e4, e5, e6⟩ := Mo.cell7 HE7.out
      have fz0 := blk_frozen HE7.out 0
      have fz1 := blk_frozen HE7.out 1
      have fz2 := blk_frozen HE7.out 2
      have fz3 := blk_frozen HE7.out 3
      have fz4 := blk_frozen HE7.out 4
      have fz5 := blk_frozen HE7.out 5
      have fz6 := blk_frozen HE7.out 6
      obtain ⟨w9, hw9, hP9, hE9⟩ := RPost.set7 (HC6.out.post.up H00.out HB0.out) HE7.out (Nat.le_succ _) H00.out.size (.int .i64 0) (.int .i64 0) (.int .i64 0) (.int .i64 (j : Int)) (.int .u64 (lp.pos (gn : Int))) (.int .i64 0) (.slice A1 j C1)
      have HRE := Aside.mk hE9
      have HRP := Aside.mk hP9
      have HDW := Aside.mk (Kd.F_step HDV.out (W1 := w9) (fun q hq _ => by rw [hw9, set7_far _ _ _ _ _ _ _ (show q ≠ w.heap.size + 1 by have := HGE.out; have := HGH.out; omega)]))
      clear hP9 hE9
      go_wp2
      rw [← hw9]
      refine bodyPost_ret (results_cell_row rfl _ _ (w.heap.size + 1) 44 #[.int .i64 0, .int .i64 0, .int .i64 0, .int .i64 (j : Int), .int .u64 (lp.pos (gn : Int)), .int .i64 0, .slice A1 j C1] (0, 0) _ rfl HRE.out Tryd.underlying44 rfl (by kernel_rfl)) rfl ?_
      have hE : consumeL cx lp st kc ⟨6, cn, cd⟩ = ({ st with saw := st.saw.set kc lm, gate := st.gate.set kc ((gn : Int) + (j : Int)) }, { ev0 with pos := lp.pos (gn : Int), n := (j : Int), data := (st.data.drop gn).take j }) := by rw [HEQ.out, if_neg (by have := HNZ.out; omega)]
      have hlen : ((st.data.drop gn).take j).length = j := by rw [List.length_take, List.length_drop, HLD.out]; have := HRN.out; omega
      have hcap : j ≤ C1 := HCAP.out
      refine ⟨A1, C1, by rw [hE]; show _ = Ending.returned (.agg #[.int .i64 0, .int .i64 0, .int .i64 0, .int .i64 (j : Int), .int .u64 (lp.pos (gn : Int)), .int .i64 0, .slice A1 ((st.data.drop gn).take j).length C1]); rw [hlen], by rw [hE]; show ((st.data.drop gn).take j).length ≤ C1; rw [hlen]; exact hcap, by rw [hE]; show Kd.F (Kd.int .i64) w9 (fun q => w.heap.size ≤ q) A1 ((st.data.drop gn).take j).length ((st.data.drop gn).take j); rw [hlen]; exact Kd.F_mono HDW.out (fun q hq => by have := HGE.out; have := HGH.out; omega), by rw [hE]; have h9 := HRP.out; rw [HS9.out] at h9; exact h9⟩
    have HJ := Aside.mk hlt
    have HME := Aside.mk hm
    have t1 : decide ((m : Int) < (gn : Int) + (rn : Int)) = true := decide_eq_true (by omega)
    have t2 : decide (m < gn + rn) = true := decide_eq_true (by omega)
    have t3 : (m : Int) < (gn : Int) + (rn : Int) := by omega
    have HMB := Aside.mk (show m < st.put.length by have := HRN.out; omega)
    have em := i1 (show m < 4611686018427387904 by have := HMB.out; have := HRN.out; omega)
    clear hm hlt hj
    go_upto_region 14 with (fail)
    clear t1 t2 t3 y0 y1 y2 x0 x1 x2 x3 x4 x5 x6 b0 b1 b2 b3 b4 b5 b6
    replace HCK := Aside.mk (HCK.out.below (below_drew1 (Below.refl _ _)))
    obtain ⟨qa, eA, _, _, dd, _⟩ := HCK.out.c.m.all m HMB.out
    have d6 := HCK.out.c.m.cells.2.2.2.2.2.2.1
    rw [eA] at d6
    have HEA := Aside.mk eA
    have g1 : decide ((m : Int) < (st.put.length : Int)) = true := decide_eq_true (by have := HMB.out; omega)
    have g2 : (m : Int) < (st.put.length : Int) := by have := HMB.out; omega
    have g3 : decide (m < st.put.length) = true := decide_eq_true HMB.out
    have HTO := Aside.mk (take_one st.data gn j (by rw [HLD.out, ← HME.out]; exact HMB.out))
    rw [← HME.out] at HTO
    have HALL := Aside.mk (fun (W : World) (h : Rm w0.heap.size W B k cx lp st i) => show W.cell? ⟨B, 6, none⟩ = some (.slice (some ⟨qa, 0, none⟩) st.put.length k.ac) ∧ W.cell? ⟨qa, m * 2 + 1, none⟩ = some (.int .i64 (st.data.getD m 0)) from by
      obtain ⟨qb, e, _, _, h4, _⟩ := h.all m HMB.out
      rw [HEA.out] at e
      injection e with e
      injection e with e
      subst e
      have h6 := h.cells.2.2.2.2.2.2.1
      rw [HEA.out] at h6
      exact ⟨h6, h4⟩)
    generalize st.data.getD m 0 = dj at *
    clear eA
    refine start_ (n := 14) (S := fun w' => w'.cell? ⟨ge, 6, none⟩ = some (.slice A1 j C1) ∧ w'.cell? ⟨B, 6, none⟩ = some (.slice (some ⟨qa, 0, none⟩) st.put.length k.ac) ∧ w'.cell? ⟨qa, m * 2 + 1, none⟩ = some (.int .i64 dj) ∧ True) (ds := [13]) (bm 14 0) (by kernel_rfl) rfl rfl ⟨(blk_cell HCK.out.x 6).trans rfl, (HALL.out _ HCK.out.c.m).1, (HALL.out _ HCK.out.c.m).2, trivial⟩ (fun hHeld => ?_)
    generalize wr.drew = wd at *
    refine pu_ 0 (bm 14 1) ?_
    refine ta_ 1 (bm 14 3) hHeld ?_
    refine pu_ 2 (bm 14 7) ?_
    refine pu_ 3 (bm 14 15) ?_
    refine pu_ 4 (bm 14 31) ?_
    refine ta_ 5 (bm 14 63) hHeld ?_
    refine pu_ 6 (bm 14 127) ?_
    refine pu_ 7 (bm 14 255) ?_
    refine pu_ 8 (bm 14 511) ?_
    refine ta_ 9 (bm 14 1023) hHeld ?_
    refine one_ (i := 10) (N := some 88) (bm 14 2047) rfl rfl (by kernel_rfl) (by decide) (fun K hK => ?_)
    refine value_ (v := .slice (some ⟨wd.heap.size, 0, none⟩) 1 1) (w1 := wd.alloc (.cells #[.int .i64 dj] 3)) (by rfl) rfl ?_ ?_
    · go_simp
    have hcb := HCK.out.below (below_alloc (Below.refl wd.heap.size wd) (.cells #[.int .i64 dj] 3))
    refine hK.out _ _ ⟨(blk_cell hcb.x 6).trans rfl, (HALL.out _ hcb.c.m).1, (HALL.out _ hcb.c.m).2, trivial⟩ (fun hHeld => ?_)
    clear hcb
    clear hK K
    refine norm_ (a' := ?_) ?_ ?_
    rotate_left
    · show Act.put _ (some 88) _ = _
      simp only [Act.put, List.setIfInBounds_toArray, List.set_cons_zero, List.set_cons_succ, i64_w, i32_w]
      rfl
    refine one_ (i := 11) (N := some 89) (bm 14 4095) rfl rfl (by kernel_rfl) (by decide) (fun K hK => ?_)
    refine Kd.R_append_step (Kd.int .i64) (w0 := wd) w1.heap.size (by rfl) (.tmp 79) (.tmp 88) 37 3 (.int .i64 0) 8 rfl und_is inf_i rfl (by decide) (by decide) (.slice A1 j C1) ((st.data.drop gn).take j) dj [.int .i64 dj] (fun _ => True) (fun _ => False) rfl rfl rfl (fun _ h => h.elim) (fun _ _ => trivial) HCK.out.d (Below.refl _ _) HCK.out.c.t.s (by have := HRN.out; have := HJ.out; have : ((st.data.drop gn).take j).length ≤ j := List.length_take_le _ _; omega) ?_
    intro v1 wn hr hz1 hg hz2
    clear hz1 hz2
    rw [HTO.out] at hr
    obtain ⟨A2, C2, ev⟩ := Kd.R_slice hr
    have hl : ((st.data.drop gn).take (j + 1)).length = j + 1 := by rw [List.length_take, List.length_drop, HLD.out]; have := HMB.out; have := HME.out; omega
    rw [hl] at ev
    subst ev
    clear hl
    replace HCK := Aside.mk (HCK.out.app H01.out hr hg)
    clear hr hg
    refine hK.out _ _ ⟨(blk_cell HCK.out.x 6).trans rfl, (HALL.out _ HCK.out.c.m).1, (HALL.out _ HCK.out.c.m).2, trivial⟩ (fun hHeld => ?_)
    clear hK K
    refine norm_ (a' := ?_) ?_ ?_
    rotate_left
    · show Act.put _ (some 89) _ = _
      simp only [Act.put, List.setIfInBounds_toArray, List.set_cons_zero, List.set_cons_succ, i64_w, i32_w]
      rfl
    refine pu_ 12 (bm 14 8191) ?_
    have x6 := (blk_cell HCK.out.x 6).trans rfl
    have fz6 := blk_frozen HCK.out.x 6
    refine last_ (i := 13) (N := none) (bm 14 16383) rfl rfl (by kernel_rfl) (by decide) (fun K hK => ?_)
    refine skip_ (w1 := ?_) (by rfl) rfl ?_ ?_
    rotate_left
    · go_simp
      rfl
    refine hK.out _ _ ?_
    clear hK K
    refine done_ (by kernel_rfl) ?_
    clear hHeld HALL d6 dd
    replace HCK := Aside.mk (HCK.out.setX H01.out 6 (.slice A2 (j + 1) C2) #[.int .i64 0, .int .i64 0, .int .i64 0, .int .i64 (rn : Int), .int .u64 (lp.pos (gn : Int)), .int .i64 0, .slice A2 (j + 1) C2] rfl)
    clear x6 fz6 g1 g2 g3
    generalize wn.setCell ⟨ge, 6, none⟩ (.slice A2 (j + 1) C2) = w9 at *
    go_wp2_with fail
    go_roundw
    case rel => exact ⟨j + 1, by rw [HME.out]; first | rfl | simp [Nat.add_assoc] | (exact congrArg (Value.int .i64) (by omega)), HJ.out, ⟨A2, C2, HCK.out⟩⟩
    case measure =>
      simp only [intOf, tn1, Int.toNat_natCast]
      have := HJ.out
      have := HME.out
      omega
end Go.Proofs.YtgibmlbdkijflaaDoor.So
