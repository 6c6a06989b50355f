/- The act of a line: walked. Asked: the library's variables lie as laid. -/
import Derived.Test.YtabcdcnnamflfaaDoorScA
set_option linter.unusedVariables false
set_option linter.unusedSimpArgs false
set_option maxRecDepth 100000
namespace Go.Proofs.YtabcdcnnamflfaaDoor.Wd
open Go.RowKit Go.Proofs.YtabcdcnnamflfaaDoorW.PrintWords Go.Proofs.YtabcdcnnamflfaaDoorW.PrintLast Go.Proofs.YtabcdcnnamflfaaDoorW.PrintMore
theorem results_ctt {P : Program} {fn : Func} {p u v : Tmp} {ty : TypeId} (h : fn.results = #[.cell p ty, .tmp u, .tmp v]) (tmps : Array Value) (w : World) (g : Nat) (t : TypeId) (cs : Array Value) (fr : Nat × Nat) (d : TypeDesc)
    (hp : tmps.getD p undef = .pointer (some ⟨g, 0, none⟩)) (hg : w.heap[g]? = some (.cells cs t fr))
    (hu : P.underlying ty = some d) (hd : (match d with | .struct _ | .array _ _ => true | _ => false) = true) (hi : (P.info? ty).map (·.size) = some cs.size) :
    (results fn tmps).run P w = .ok (.tuple #[.agg cs, tmps.getD u undef, tmps.getD v undef]) w := by
  have hp' : tmps[p]?.getD undef = .pointer (some ⟨g, 0, none⟩) := by simpa using hp
  simp [results, h, hp', asAddr, run_loadVar_row w g t ty cs fr d hg hu hd hi]
theorem at0 {w : World} {A : Option Addr} {ws : List (List UInt8)} (h : Txts w A ws) (h0 : 0 < ws.length) : ∃ g, A = some ⟨g, 0, none⟩ ∧ ∀ j (hj : j < ws.length), w.cell? ⟨g, j, none⟩ = some (.string (bs ws[j])) := by
  obtain ⟨g, cl, e, hb, hc⟩ := h (fun e => by rw [e] at h0; simp at h0)
  exact ⟨g, e, fun j hj => (blk_cell hb j).trans (hc j hj)⟩
theorem numw_ (x : List UInt8) (hx : x.length ≤ 100000) (w : World) (hw : LibW w) : Calls Tryd.prog 18 #[.string (bs x)] w fun e w' => e = .returned (.tuple #[.int .i64 ((numOf x).getD 0), .bool (numOf x).isSome]) ∧ Below w.heap.size w w' := by
  have h := num_w (bs x) (by rw [bs_size]; omega) w hw
  rwa [bs_data] at h
theorem listw_ (x : List UInt8) (hx : x.length ≤ 100000) (w : World) (hw : LibW w) : Calls Tryd.prog 20 #[.string (bs x)] w fun e w' => ∃ A c, e = .returned (.tuple #[.slice A ((listOf x).getD []).length c, .bool (listOf x).isSome]) ∧ ((listOf x).getD []).length ≤ c ∧ NumS w' A ((listOf x).getD []) ∧ Below w.heap.size w w' := by
  refine (list_w (bs x) (by rw [bs_size]; omega) w hw).mono ?_
  rintro e w' ⟨h, hb⟩
  unfold ListRes at h
  rw [bs_data] at h
  rcases h with ⟨h, rfl⟩ | ⟨l, v, h, _, hO, rfl⟩
  · rw [h]; exact ⟨none, 0, rfl, Nat.le_refl _, fun hn => absurd rfl hn, hb⟩
  · rw [h]
    obtain ⟨A, c, rfl, hc, hn⟩ := numS_of_R hO
    exact ⟨A, c, rfl, hc, hn, hb⟩
/-- What stands when the words are there. -/
structure AS (w0 w : World) (g n c : Nat) (ws : List (List UInt8)) : Prop where
  b : Below w0.heap.size w0 w
  r : w.heap[w0.heap.size]? = some (.cells #[.int .i64 0, .int .i64 0, .int .i64 0, .slice none 0 0] 50 (0, 0))
  t : ∀ j (hj : j < ws.length), w.cell? ⟨g, j, none⟩ = some (.string (bs ws[j]))
theorem AS.step {w0 w w' : World} {g n c : Nat} {ws : List (List UInt8)} (h : AS w0 w g n c ws) (b : Below w.heap.size w w') : AS w0 w' g n c ws :=
  ⟨h.b.trans (b.mono h.b.size), blk_below h.r b, fun j hj => (b.cell (World.block_lt_of_cell? _ _ (h.t j hj))).trans (h.t j hj)⟩
theorem sp_len (s : List UInt8) : ∀ x ∈ wordsOf s, x.length ≤ s.length := by
  intro x hx
  unfold wordsOf at hx
  split at hx
  · simp at hx
  · exact sp_size 32 s x hx
set_option maxHeartbeats 4000000 in
theorem act_none (s : List UInt8) (hs : s.length ≤ 65536) (w : World) (hw : LibW w) (h : lineB s = false ∨ (wordsOf s).length < 2 ∨ 3 < (wordsOf s).length) :
    Calls Tryd.prog 30 #[.string (bs s)] w fun e w' => ActRes s w w' e := by
  have HW := Aside.mk hw
  have HS := Aside.mk (split_w (bs s) (by rw [bs_size]; omega))
  have HSL := Aside.mk hs
  have HB := Aside.mk (below_alloc (Below.refl w.heap.size w) (.cells #[.int .i64 0, .int .i64 0, .int .i64 0, .slice none 0 0] 50))
  have HR := Aside.mk (heap_alloc_new w (.cells #[.int .i64 0, .int .i64 0, .int .i64 0, .slice none 0 0] 50))
  have HN := Aside.mk (show resA s = false from by
    unfold resA
    rcases h with h | h
    · rw [h]; rfl
    · have : actG (wordsOf s) = false := by
        match hws : wordsOf s with
        | [] => rfl
        | [_] => rfl
        | [_, _] => rw [hws] at h; simp at h
        | [_, _, _] => rw [hws] at h; simp at h
        | _ :: _ :: _ :: _ :: _ => rfl
      rw [this, Bool.and_false])
  have HH := Aside.mk h
  clear h
  clear hs hw
  go_enter Tryd.func30, Tryd.ntmps30
  go_wp2_with fail
  refine (HS.out _ (HW.out.below HB.out)).mono ?_
  rintro r w1 ⟨hsr, hb⟩
  replace HR := Aside.mk (blk_below HR.out hb)
  replace HB := Aside.mk (HB.out.trans (hb.mono HB.out.size))
  clear hb HS
  unfold SplitRes at hsr
  rw [bs_data] at hsr
  rcases hsr with ⟨h1, rfl⟩ | ⟨_, h2, rfl⟩ | ⟨_, h2, A, c, rfl, hc, ht⟩
  · exact absurd h1 (by have := HSL.out; omega)
  · clear h2
    have HF := Aside.mk (fin50 (w0 := w) (R := w.heap.size) (.int .i64 0) (.int .i64 0) (.int .i64 0) (.slice none 0 0) HB.out (Nat.le_refl _) HR.out)
    obtain ⟨r0, r1, r2, r3, g0, g1, g2, g3⟩ := blk_cell4 HR.out
    go_wp2
    refine bodyPost_ret (results_ctt rfl _ _ w.heap.size 50 #[.int .i64 0, .int .i64 0, .int .i64 0, .slice none 0 0] (0, 0) _ rfl HF.out.1 Tryd.underlying50 rfl (by kernel_rfl)) rfl ?_
    exact actRes_no HN.out HF.out.2.1
  · have hlen : (wordsOf s).length < 2 ∨ 3 < (wordsOf s).length := by
      rcases HH.out with h | h
      · rw [h2] at h; cases h
      · exact h
    clear h2 hc ht
    generalize (wordsOf s).length = n at *
    rcases hlen with h | h
    · have t1 : decide ((n : Int) < 2) = true := decide_eq_true (by omega)
      have t2 : decide (n < 2) = true := decide_eq_true h
      clear h
      have HF := Aside.mk (fin50 (w0 := w) (R := w.heap.size) (.int .i64 0) (.int .i64 0) (.int .i64 0) (.slice none 0 0) HB.out (Nat.le_refl _) HR.out)
      obtain ⟨r0, r1, r2, r3, g0, g1, g2, g3⟩ := blk_cell4 HR.out
      go_wp2
      refine bodyPost_ret (results_ctt rfl _ _ w.heap.size 50 #[.int .i64 0, .int .i64 0, .int .i64 0, .slice none 0 0] (0, 0) _ rfl HF.out.1 Tryd.underlying50 rfl (by kernel_rfl)) rfl ?_
      exact actRes_no HN.out HF.out.2.1
    · have t1 : decide ((n : Int) < 2) = false := decide_eq_false (by omega)
      have t2 : decide (n < 2) = false := decide_eq_false (by omega)
      have t3 : decide ((3 : Int) < (n : Int)) = true := decide_eq_true (by omega)
      have t4 : decide (3 < n) = true := decide_eq_true (by omega)
      clear h
      have HF := Aside.mk (fin50 (w0 := w) (R := w.heap.size) (.int .i64 0) (.int .i64 0) (.int .i64 0) (.slice none 0 0) HB.out (Nat.le_refl _) HR.out)
      obtain ⟨r0, r1, r2, r3, g0, g1, g2, g3⟩ := blk_cell4 HR.out
      go_wp2
      refine bodyPost_ret (results_ctt rfl _ _ w.heap.size 50 #[.int .i64 0, .int .i64 0, .int .i64 0, .slice none 0 0] (0, 0) _ rfl HF.out.1 Tryd.underlying50 rfl (by kernel_rfl)) rfl ?_
      exact actRes_no HN.out HF.out.2.1
set_option maxHeartbeats 4000000 in
theorem act_two (s : List UInt8) (hs : s.length ≤ 65536) (w : World) (hw : LibW w) (hlb : lineB s = true) (t o : List UInt8) (hws : wordsOf s = [t, o]) :
    Calls Tryd.prog 30 #[.string (bs s)] w fun e w' => ActRes s w w' e := by
  have HW := Aside.mk hw
  have HS := Aside.mk (split_w (bs s) (by rw [bs_size]; omega))
  have HSL := Aside.mk hs
  have HB := Aside.mk (below_alloc (Below.refl w.heap.size w) (.cells #[.int .i64 0, .int .i64 0, .int .i64 0, .slice none 0 0] 50))
  have HR := Aside.mk (heap_alloc_new w (.cells #[.int .i64 0, .int .i64 0, .int .i64 0, .slice none 0 0] 50))
  have HLB := Aside.mk hlb
  have HWS := Aside.mk hws
  have HLT := Aside.mk (show t.length ≤ 100000 by have := sp_len s t (by rw [hws]; simp); omega)
  have HLO := Aside.mk (show o.length ≤ 100000 by have := sp_len s o (by rw [hws]; simp); omega)
  have HQ := Aside.mk (show resA s = actG [t, o] from by unfold resA; rw [hlb, hws]; rfl)
  clear hlb hws
  clear hs hw
  go_enter Tryd.func30, Tryd.ntmps30
  go_wp2_with fail
  refine (HS.out _ (HW.out.below HB.out)).mono ?_
  rintro r w1 ⟨hsr, hb⟩
  replace HR := Aside.mk (blk_below HR.out hb)
  replace HB := Aside.mk (HB.out.trans (hb.mono HB.out.size))
  clear hb HS
  unfold SplitRes at hsr
  rw [bs_data] at hsr
  rcases hsr with ⟨h1, _⟩ | ⟨_, h2, _⟩ | ⟨_, h2, A, c, rfl, hc, ht⟩
  · exact absurd h1 (by have := HSL.out; omega)
  · rw [HLB.out] at h2; cases h2
  rw [HWS.out] at hc ht ⊢
  obtain ⟨g, rfl, hcell⟩ := at0 ht (by simp)
  have HA := Aside.mk (show AS w w1 g 2 c [t, o] from ⟨HB.out, HR.out, hcell⟩)
  clear h2 hc ht hcell HB HR
  have c0 := HA.out.t 0 (by simp)
  have c1 := HA.out.t 1 (by simp)
  simp only [List.getElem_cons_zero, List.getElem_cons_succ, List.length_cons, List.length_nil, Nat.zero_add, Nat.reduceAdd] at c0 c1 ⊢
  go_wp2_with fail
  refine (numw_ t HLT.out _ (HW.out.below HA.out.b)).mono ?_
  rintro r w2 ⟨rfl, hb⟩
  replace HA := Aside.mk (HA.out.step hb)
  clear hb c0 c1
  have c0 := HA.out.t 0 (by simp)
  have c1 := HA.out.t 1 (by simp)
  simp only [List.getElem_cons_zero, List.getElem_cons_succ] at c0 c1
  go_wp2_with (go_at_call 58; refine (evOp_ o _).mono ?_)
  rintro r w3 ⟨rfl, hb⟩
  replace HA := Aside.mk (HA.out.step hb)
  clear hb c0 c1
  have c0 := HA.out.t 0 (by simp)
  have c1 := HA.out.t 1 (by simp)
  simp only [List.getElem_cons_zero, List.getElem_cons_succ] at c0 c1
  generalize hnt : (numOf t).getD 0 = tv at *
  generalize hoo : opOfT o = p at *
  go_upto_region 6 with (fail)
  have HE := Aside.mk (heap_alloc_new w3 (.cells #[.int .i64 tv, .int .i64 p, .int .i64 0, .slice none 0 0] 50))
  have HNE := Aside.mk (Nat.ne_of_lt (blk_lt HA.out.r))
  have HGE := Aside.mk HA.out.b.size
  replace HA := Aside.mk (HA.out.step (below_alloc (Below.refl w3.heap.size w3) (.cells #[.int .i64 tv, .int .i64 p, .int .i64 0, .slice none 0 0] 50)))
  clear c0 c1
  generalize w3.alloc (.cells #[.int .i64 tv, .int .i64 p, .int .i64 0, .slice none 0 0] 50) = w4 at *
  generalize w3.heap.size = gE at *
  obtain ⟨e0, e1, e2, e3, f0, f1, f2, f3⟩ := blk_cell4 HE.out
  have hne := HNE.out
  have hne2 := hne.symm
  have c0 := HA.out.t 0 (by simp)
  have c1 := HA.out.t 1 (by simp)
  simp only [List.getElem_cons_zero, List.getElem_cons_succ] at c0 c1
  cases hnum : numOf t with
  | none =>
    have HN := Aside.mk (show resA s = false from by rw [HQ.out]; simp [actG, hnum])
    clear hnum hnt hoo
    simp only [Option.isSome_none]
    by_cases hb2 : p = 2
    · have q2 : (p == 2) = true := by rw [hb2]; rfl
      clear hb2
      have HB := Aside.mk HA.out.b
      have HR := Aside.mk HA.out.r
      have HF := Aside.mk (fin50 (w0 := w) (R := w.heap.size) (.int .i64 0) (.int .i64 0) (.int .i64 0) (.slice none 0 0) HB.out (Nat.le_refl _) HR.out)
      obtain ⟨r0, r1, r2, r3, g0, g1, g2, g3⟩ := blk_cell4 HR.out
      go_wp2
      refine bodyPost_ret (results_ctt rfl _ _ w.heap.size 50 #[.int .i64 0, .int .i64 0, .int .i64 0, .slice none 0 0] (0, 0) _ rfl HF.out.1 Tryd.underlying50 rfl (by kernel_rfl)) rfl ?_
      exact actRes_no HN.out HF.out.2.1
    · have q2 : (p == 2) = false := by simpa using hb2
      clear hb2
      cases q3 : (p == 3)
      · have HB := Aside.mk HA.out.b
        have HR := Aside.mk HA.out.r
        have HF := Aside.mk (fin50 (w0 := w) (R := w.heap.size) (.int .i64 0) (.int .i64 0) (.int .i64 0) (.slice none 0 0) HB.out (Nat.le_refl _) HR.out)
        obtain ⟨r0, r1, r2, r3, g0, g1, g2, g3⟩ := blk_cell4 HR.out
        go_wp2
        refine bodyPost_ret (results_ctt rfl _ _ w.heap.size 50 #[.int .i64 0, .int .i64 0, .int .i64 0, .slice none 0 0] (0, 0) _ rfl HF.out.1 Tryd.underlying50 rfl (by kernel_rfl)) rfl ?_
        exact actRes_no HN.out HF.out.2.1
      · have HB := Aside.mk HA.out.b
        have HR := Aside.mk HA.out.r
        have HF := Aside.mk (fin50 (w0 := w) (R := w.heap.size) (.int .i64 0) (.int .i64 0) (.int .i64 0) (.slice none 0 0) HB.out (Nat.le_refl _) HR.out)
        obtain ⟨r0, r1, r2, r3, g0, g1, g2, g3⟩ := blk_cell4 HR.out
        go_wp2
        refine bodyPost_ret (results_ctt rfl _ _ w.heap.size 50 #[.int .i64 0, .int .i64 0, .int .i64 0, .slice none 0 0] (0, 0) _ rfl HF.out.1 Tryd.underlying50 rfl (by kernel_rfl)) rfl ?_
        exact actRes_no HN.out HF.out.2.1
  | some m =>
    rw [hnum] at hnt
    simp only [Option.getD_some] at hnt
    subst hnt
    simp only [Option.isSome_some]
    by_cases hbare : p = 2 ∨ p = 3
    · have HY := Aside.mk (show resA s = true from by rw [HQ.out]; simp [actG, hnum, hoo]; exact hbare)
      have HE1 := Aside.mk (show actV (wordsOf s) = ⟨m, p, 0, []⟩ from by rw [HWS.out]; simp [actV, hnum, hoo])
      have HE2 := Aside.mk (show actN (wordsOf s) = 1 from by rw [HWS.out]; rfl)
      clear hnum hoo
      have HF := Aside.mk (fin50 (w0 := w) (R := w.heap.size) (.int .i64 m) (.int .i64 p) (.int .i64 0) (.slice none 0 0) HA.out.b (Nat.le_refl _) HA.out.r)
      obtain ⟨r0, r1, r2, r3, g0, g1, g2, g3⟩ := blk_cell4 HA.out.r
      have q0 : (p == 0) = false := by rcases hbare with rfl | rfl <;> rfl
      have q1 : (p == 1) = false := by rcases hbare with rfl | rfl <;> rfl
      have q4 : (p == 4) = false := by rcases hbare with rfl | rfl <;> rfl
      have q5 : (p == 5) = false := by rcases hbare with rfl | rfl <;> rfl
      have q6 : (p == 6) = false := by rcases hbare with rfl | rfl <;> rfl
      rcases hbare with h | h
      · have q2 : (p == 2) = true := by rw [h]; rfl
        clear h
        go_wp2
        refine bodyPost_ret (results_ctt rfl _ _ w.heap.size 50 #[.int .i64 m, .int .i64 p, .int .i64 0, .slice none 0 0] (0, 0) _ rfl HF.out.1 Tryd.underlying50 rfl (by kernel_rfl)) rfl ?_
        exact actRes_yes (d := []) HY.out HE1.out HE2.out (Nat.le_refl _) (fun hn => absurd rfl hn) HF.out.2.1
      · have q2 : (p == 2) = false := by rw [h]; rfl
        have q3 : (p == 3) = true := by rw [h]; rfl
        clear h
        go_wp2
        refine bodyPost_ret (results_ctt rfl _ _ w.heap.size 50 #[.int .i64 m, .int .i64 p, .int .i64 0, .slice none 0 0] (0, 0) _ rfl HF.out.1 Tryd.underlying50 rfl (by kernel_rfl)) rfl ?_
        exact actRes_yes (d := []) HY.out HE1.out HE2.out (Nat.le_refl _) (fun hn => absurd rfl hn) HF.out.2.1
    · have HN := Aside.mk (show resA s = false from by rw [HQ.out]; simp [actG, hnum, hoo]; omega)
      have q2 : (p == 2) = false := by simp; omega
      have q3 : (p == 3) = false := by simp; omega
      clear hnum hoo hbare
      have HB := Aside.mk HA.out.b
      have HR := Aside.mk HA.out.r
      have HF := Aside.mk (fin50 (w0 := w) (R := w.heap.size) (.int .i64 0) (.int .i64 0) (.int .i64 0) (.slice none 0 0) HB.out (Nat.le_refl _) HR.out)
      obtain ⟨r0, r1, r2, r3, g0, g1, g2, g3⟩ := blk_cell4 HR.out
      go_wp2
      refine bodyPost_ret (results_ctt rfl _ _ w.heap.size 50 #[.int .i64 0, .int .i64 0, .int .i64 0, .slice none 0 0] (0, 0) _ rfl HF.out.1 Tryd.underlying50 rfl (by kernel_rfl)) rfl ?_
      exact actRes_no HN.out HF.out.2.1
set_option maxHeartbeats 4000000 in
theorem act_three (s : List UInt8) (hs : s.length ≤ 65536) (w : World) (hw : LibW w) (hlb : lineB s = true) (t o x : List UInt8) (hws : wordsOf s = [t, o, x]) :
    Calls Tryd.prog 30 #[.string (bs s)] w fun e w' => ActRes s w w' e := by
  have HW := Aside.mk hw
  have HS := Aside.mk (split_w (bs s) (by rw [bs_size]; omega))
  have HSL := Aside.mk hs
  have HB := Aside.mk (below_alloc (Below.refl w.heap.size w) (.cells #[.int .i64 0, .int .i64 0, .int .i64 0, .slice none 0 0] 50))
  have HR := Aside.mk (heap_alloc_new w (.cells #[.int .i64 0, .int .i64 0, .int .i64 0, .slice none 0 0] 50))
  have HLB := Aside.mk hlb
  have HWS := Aside.mk hws
  have HLT := Aside.mk (show t.length ≤ 100000 by have := sp_len s t (by rw [hws]; simp); omega)
  have HLO := Aside.mk (show o.length ≤ 100000 by have := sp_len s o (by rw [hws]; simp); omega)
  have HLX := Aside.mk (show x.length ≤ 100000 by have := sp_len s x (by rw [hws]; simp); omega)
  have HQ := Aside.mk (show resA s = actG [t, o, x] from by unfold resA; rw [hlb, hws]; rfl)
  clear hlb hws
  clear hs hw
  go_enter Tryd.func30, Tryd.ntmps30
  go_wp2_with fail
  refine (HS.out _ (HW.out.below HB.out)).mono ?_
  rintro r w1 ⟨hsr, hb⟩
  replace HR := Aside.mk (blk_below HR.out hb)
  replace HB := Aside.mk (HB.out.trans (hb.mono HB.out.size))
  clear hb HS
  unfold SplitRes at hsr
  rw [bs_data] at hsr
  rcases hsr with ⟨h1, _⟩ | ⟨_, h2, _⟩ | ⟨_, h2, A, c, rfl, hc, ht⟩
  · exact absurd h1 (by have := HSL.out; omega)
  · rw [HLB.out] at h2; cases h2
  rw [HWS.out] at hc ht ⊢
  obtain ⟨g, rfl, hcell⟩ := at0 ht (by simp)
  have HA := Aside.mk (show AS w w1 g 3 c [t, o, x] from ⟨HB.out, HR.out, hcell⟩)
  clear h2 hc ht hcell HB HR
  have c0 := HA.out.t 0 (by simp)
  have c1 := HA.out.t 1 (by simp)
  have c2 := HA.out.t 2 (by simp)
  simp only [List.getElem_cons_zero, List.getElem_cons_succ, List.length_cons, List.length_nil, Nat.zero_add, Nat.reduceAdd] at c0 c1 c2 ⊢
  go_wp2_with fail
  refine (numw_ t HLT.out _ (HW.out.below HA.out.b)).mono ?_
  rintro r w2 ⟨rfl, hb⟩
  replace HA := Aside.mk (HA.out.step hb)
  clear hb c0 c1 c2
  have c0 := HA.out.t 0 (by simp)
  have c1 := HA.out.t 1 (by simp)
  have c2 := HA.out.t 2 (by simp)
  simp only [List.getElem_cons_zero, List.getElem_cons_succ] at c0 c1 c2
  go_wp2_with (go_at_call 58; refine (evOp_ o _).mono ?_)
  rintro r w3 ⟨rfl, hb⟩
  replace HA := Aside.mk (HA.out.step hb)
  clear hb c0 c1 c2
  have c0 := HA.out.t 0 (by simp)
  have c1 := HA.out.t 1 (by simp)
  have c2 := HA.out.t 2 (by simp)
  simp only [List.getElem_cons_zero, List.getElem_cons_succ] at c0 c1 c2
  generalize hnt : (numOf t).getD 0 = tv at *
  generalize hoo : opOfT o = p at *
  go_upto_region 6 with (fail)
  have HE := Aside.mk (heap_alloc_new w3 (.cells #[.int .i64 tv, .int .i64 p, .int .i64 0, .slice none 0 0] 50))
  have HNE := Aside.mk (Nat.ne_of_lt (blk_lt HA.out.r))
  have HGE := Aside.mk HA.out.b.size
  replace HA := Aside.mk (HA.out.step (below_alloc (Below.refl w3.heap.size w3) (.cells #[.int .i64 tv, .int .i64 p, .int .i64 0, .slice none 0 0] 50)))
  clear c0 c1 c2
  generalize w3.alloc (.cells #[.int .i64 tv, .int .i64 p, .int .i64 0, .slice none 0 0] 50) = w4 at *
  generalize w3.heap.size = gE at *
  obtain ⟨e0, e1, e2, e3, f0, f1, f2, f3⟩ := blk_cell4 HE.out
  have hne := HNE.out
  have hne2 := hne.symm
  have c0 := HA.out.t 0 (by simp)
  have c1 := HA.out.t 1 (by simp)
  have c2 := HA.out.t 2 (by simp)
  simp only [List.getElem_cons_zero, List.getElem_cons_succ] at c0 c1 c2
  cases hnum : numOf t with
  | none =>
    have HN := Aside.mk (show resA s = false from by rw [HQ.out]; simp [actG, hnum])
    clear hnum hnt hoo
    simp only [Option.isSome_none]
    by_cases hb2 : p = 2
    · have q2 : (p == 2) = true := by rw [hb2]; rfl
      clear hb2
      have HB := Aside.mk HA.out.b
      have HR := Aside.mk HA.out.r
      have HF := Aside.mk (fin50 (w0 := w) (R := w.heap.size) (.int .i64 0) (.int .i64 0) (.int .i64 0) (.slice none 0 0) HB.out (Nat.le_refl _) HR.out)
      obtain ⟨r0, r1, r2, r3, g0, g1, g2, g3⟩ := blk_cell4 HR.out
      go_wp2
      refine bodyPost_ret (results_ctt rfl _ _ w.heap.size 50 #[.int .i64 0, .int .i64 0, .int .i64 0, .slice none 0 0] (0, 0) _ rfl HF.out.1 Tryd.underlying50 rfl (by kernel_rfl)) rfl ?_
      exact actRes_no HN.out HF.out.2.1
    · have q2 : (p == 2) = false := by simpa using hb2
      clear hb2
      cases q3 : (p == 3)
      · have HB := Aside.mk HA.out.b
        have HR := Aside.mk HA.out.r
        have HF := Aside.mk (fin50 (w0 := w) (R := w.heap.size) (.int .i64 0) (.int .i64 0) (.int .i64 0) (.slice none 0 0) HB.out (Nat.le_refl _) HR.out)
        obtain ⟨r0, r1, r2, r3, g0, g1, g2, g3⟩ := blk_cell4 HR.out
        go_wp2
        refine bodyPost_ret (results_ctt rfl _ _ w.heap.size 50 #[.int .i64 0, .int .i64 0, .int .i64 0, .slice none 0 0] (0, 0) _ rfl HF.out.1 Tryd.underlying50 rfl (by kernel_rfl)) rfl ?_
        exact actRes_no HN.out HF.out.2.1
      · have HB := Aside.mk HA.out.b
        have HR := Aside.mk HA.out.r
        have HF := Aside.mk (fin50 (w0 := w) (R := w.heap.size) (.int .i64 0) (.int .i64 0) (.int .i64 0) (.slice none 0 0) HB.out (Nat.le_refl _) HR.out)
        obtain ⟨r0, r1, r2, r3, g0, g1, g2, g3⟩ := blk_cell4 HR.out
        go_wp2
        refine bodyPost_ret (results_ctt rfl _ _ w.heap.size 50 #[.int .i64 0, .int .i64 0, .int .i64 0, .slice none 0 0] (0, 0) _ rfl HF.out.1 Tryd.underlying50 rfl (by kernel_rfl)) rfl ?_
        exact actRes_no HN.out HF.out.2.1
  | some m =>
    rw [hnum] at hnt
    simp only [Option.getD_some] at hnt
    subst hnt
    simp only [Option.isSome_some]
    have hp := opOfT_range o
    rw [hoo] at hp
    have HPR := Aside.mk hp
    have HNUM := Aside.mk hnum
    have HOO := Aside.mk hoo
    clear hp hnum hoo
    by_cases hb2 : p = 2
    · have HN := Aside.mk (show resA s = false from by rw [HQ.out]; simp [actG, HNUM.out, HOO.out, hb2])
      have q2 : (p == 2) = true := by rw [hb2]; rfl
      clear hb2
      have HB := Aside.mk HA.out.b
      have HR := Aside.mk HA.out.r
      have HF := Aside.mk (fin50 (w0 := w) (R := w.heap.size) (.int .i64 0) (.int .i64 0) (.int .i64 0) (.slice none 0 0) HB.out (Nat.le_refl _) HR.out)
      obtain ⟨r0, r1, r2, r3, g0, g1, g2, g3⟩ := blk_cell4 HR.out
      go_wp2
      refine bodyPost_ret (results_ctt rfl _ _ w.heap.size 50 #[.int .i64 0, .int .i64 0, .int .i64 0, .slice none 0 0] (0, 0) _ rfl HF.out.1 Tryd.underlying50 rfl (by kernel_rfl)) rfl ?_
      exact actRes_no HN.out HF.out.2.1
    by_cases hb3 : p = 3
    · have HN := Aside.mk (show resA s = false from by rw [HQ.out]; simp [actG, HNUM.out, HOO.out, hb3])
      have q2 : (p == 2) = false := by rw [hb3]; rfl
      have q3 : (p == 3) = true := by rw [hb3]; rfl
      clear hb2 hb3
      have HB := Aside.mk HA.out.b
      have HR := Aside.mk HA.out.r
      have HF := Aside.mk (fin50 (w0 := w) (R := w.heap.size) (.int .i64 0) (.int .i64 0) (.int .i64 0) (.slice none 0 0) HB.out (Nat.le_refl _) HR.out)
      obtain ⟨r0, r1, r2, r3, g0, g1, g2, g3⟩ := blk_cell4 HR.out
      go_wp2
      refine bodyPost_ret (results_ctt rfl _ _ w.heap.size 50 #[.int .i64 0, .int .i64 0, .int .i64 0, .slice none 0 0] (0, 0) _ rfl HF.out.1 Tryd.underlying50 rfl (by kernel_rfl)) rfl ?_
      exact actRes_no HN.out HF.out.2.1
    have HP7 := Aside.mk (show p = 0 ∨ p = 5 ∨ p = 1 ∨ p = 4 ∨ p = 6 by have := HPR.out; omega)
    clear hb2 hb3
    rcases HP7.out with h | h | h | h | h
    · have HP := Aside.mk h
      clear h
      have q0 : (p == 0) = true := by rw [HP.out]; rfl
      have q1 : (p == 1) = false := by rw [HP.out]; rfl
      have q2 : (p == 2) = false := by rw [HP.out]; rfl
      have q3 : (p == 3) = false := by rw [HP.out]; rfl
      have q4 : (p == 4) = false := by rw [HP.out]; rfl
      have q5 : (p == 5) = false := by rw [HP.out]; rfl
      have q6 : (p == 6) = false := by rw [HP.out]; rfl
      go_wp2_with (go_at_call 18; refine (numw_ x HLX.out _ (HW.out.below HA.out.b)).mono ?_)
      rintro r w5 ⟨rfl, hb⟩
      replace HE := Aside.mk (blk_below HE.out hb)
      replace HA := Aside.mk (HA.out.step hb)
      clear hb e0 e1 e2 e3 f0 f1 f2 f3 c0 c1 c2
      obtain ⟨e0, e1, e2, e3, f0, f1, f2, f3⟩ := blk_cell4 HE.out
      have c1 := HA.out.t 1 (by simp)
      simp only [List.getElem_cons_zero, List.getElem_cons_succ] at c1
      cases hx : numOf x with
      | none =>
        have HN := Aside.mk (show resA s = false from by rw [HQ.out]; simp [actG, HNUM.out, HOO.out, HP.out, hx])
        clear hx
        simp only [Option.getD_none, Option.isSome_none]
        have HB := Aside.mk HA.out.b
        have HR := Aside.mk HA.out.r
        have HF := Aside.mk (fin50 (w0 := w) (R := w.heap.size) (.int .i64 0) (.int .i64 0) (.int .i64 0) (.slice none 0 0) HB.out (Nat.le_refl _) HR.out)
        obtain ⟨r0, r1, r2, r3, g0, g1, g2, g3⟩ := blk_cell4 HR.out
        go_wp2
        refine bodyPost_ret (results_ctt rfl _ _ w.heap.size 50 #[.int .i64 0, .int .i64 0, .int .i64 0, .slice none 0 0] (0, 0) _ rfl HF.out.1 Tryd.underlying50 rfl (by kernel_rfl)) rfl ?_
        exact actRes_no HN.out HF.out.2.1
      | some k =>
        have HX := Aside.mk hx
        clear hx
        simp only [Option.getD_some, Option.isSome_some]
        have qs := str_eq o Wd.stepT
        by_cases hst : o = Wd.stepT
        · have q7 : ((bs o).toList == [115, 116, 101, 112]) = true := by rw [bs_toList, hst]; rfl
          have HST := Aside.mk hst
          clear hst qs
          by_cases hk1 : 1 ≤ k
          · have t1 : decide ((1 : Int) ≤ k) = true := decide_eq_true hk1
            by_cases hk2 : k ≤ 1000
            · have t2 : decide (k ≤ (1000 : Int)) = true := decide_eq_true hk2
              have HY := Aside.mk (show resA s = true from by rw [HQ.out]; simp [actG, HNUM.out, HOO.out, HP.out, HX.out, HST.out, hk1, hk2, stepT_op])
              have HE1 := Aside.mk (show actV (wordsOf s) = ⟨m, p, 0, []⟩ from by rw [HWS.out]; simp [actV, HNUM.out, HOO.out, HP.out])
              have HE2 := Aside.mk (show actN (wordsOf s) = k from by rw [HWS.out]; simp [actN, HOO.out, HP.out, HX.out])
              have HF := Aside.mk (fin50 (w0 := w) (R := w.heap.size) (.int .i64 m) (.int .i64 p) (.int .i64 0) (.slice none 0 0) HA.out.b (Nat.le_refl _) HA.out.r)
              obtain ⟨r0, r1, r2, r3, g0, g1, g2, g3⟩ := blk_cell4 HA.out.r
              clear hk1 hk2
              go_wp2
              refine bodyPost_ret (results_ctt rfl _ _ w.heap.size 50 #[.int .i64 m, .int .i64 p, .int .i64 0, .slice none 0 0] (0, 0) _ rfl HF.out.1 Tryd.underlying50 rfl (by kernel_rfl)) rfl ?_
              exact actRes_yes (d := []) HY.out HE1.out HE2.out (Nat.le_refl _) (fun hn => absurd rfl hn) HF.out.2.1
            · have t2 : decide (k ≤ (1000 : Int)) = false := decide_eq_false hk2
              have HN := Aside.mk (show resA s = false from by rw [HQ.out]; simp [actG, HNUM.out, HOO.out, HP.out, HX.out, HST.out, stepT_op]; omega)
              clear hk1 hk2
              have HB := Aside.mk HA.out.b
              have HR := Aside.mk HA.out.r
              have HF := Aside.mk (fin50 (w0 := w) (R := w.heap.size) (.int .i64 0) (.int .i64 0) (.int .i64 0) (.slice none 0 0) HB.out (Nat.le_refl _) HR.out)
              obtain ⟨r0, r1, r2, r3, g0, g1, g2, g3⟩ := blk_cell4 HR.out
              go_wp2
              refine bodyPost_ret (results_ctt rfl _ _ w.heap.size 50 #[.int .i64 0, .int .i64 0, .int .i64 0, .slice none 0 0] (0, 0) _ rfl HF.out.1 Tryd.underlying50 rfl (by kernel_rfl)) rfl ?_
              exact actRes_no HN.out HF.out.2.1
          · have t1 : decide ((1 : Int) ≤ k) = false := decide_eq_false hk1
            have HN := Aside.mk (show resA s = false from by rw [HQ.out]; simp [actG, HNUM.out, HOO.out, HP.out, HX.out, HST.out, stepT_op]; omega)
            clear hk1
            have HB := Aside.mk HA.out.b
            have HR := Aside.mk HA.out.r
            have HF := Aside.mk (fin50 (w0 := w) (R := w.heap.size) (.int .i64 0) (.int .i64 0) (.int .i64 0) (.slice none 0 0) HB.out (Nat.le_refl _) HR.out)
            obtain ⟨r0, r1, r2, r3, g0, g1, g2, g3⟩ := blk_cell4 HR.out
            go_wp2
            refine bodyPost_ret (results_ctt rfl _ _ w.heap.size 50 #[.int .i64 0, .int .i64 0, .int .i64 0, .slice none 0 0] (0, 0) _ rfl HF.out.1 Tryd.underlying50 rfl (by kernel_rfl)) rfl ?_
            exact actRes_no HN.out HF.out.2.1
        · have q7 : ((bs o).toList == [115, 116, 101, 112]) = false := by rw [bs_toList, beq_eq_false_iff_ne]; exact hst
          have HN := Aside.mk (show resA s = false from by rw [HQ.out]; simp [actG, HNUM.out, HOO.out, HP.out, HX.out, hst])
          clear hst qs
          have HB := Aside.mk HA.out.b
          have HR := Aside.mk HA.out.r
          have HF := Aside.mk (fin50 (w0 := w) (R := w.heap.size) (.int .i64 0) (.int .i64 0) (.int .i64 0) (.slice none 0 0) HB.out (Nat.le_refl _) HR.out)
          obtain ⟨r0, r1, r2, r3, g0, g1, g2, g3⟩ := blk_cell4 HR.out
          go_wp2
          refine bodyPost_ret (results_ctt rfl _ _ w.heap.size 50 #[.int .i64 0, .int .i64 0, .int .i64 0, .slice none 0 0] (0, 0) _ rfl HF.out.1 Tryd.underlying50 rfl (by kernel_rfl)) rfl ?_
          exact actRes_no HN.out HF.out.2.1
    · have HP := Aside.mk h
      clear h
      have q0 : (p == 0) = false := by rw [HP.out]; rfl
      have q1 : (p == 1) = false := by rw [HP.out]; rfl
      have q2 : (p == 2) = false := by rw [HP.out]; rfl
      have q3 : (p == 3) = false := by rw [HP.out]; rfl
      have q4 : (p == 4) = false := by rw [HP.out]; rfl
      have q5 : (p == 5) = true := by rw [HP.out]; rfl
      have q6 : (p == 6) = false := by rw [HP.out]; rfl
      go_wp2_with (go_at_call 20; refine (listw_ x HLX.out _ (HW.out.below HA.out.b)).mono ?_)
      rintro r w5 ⟨A2, cz, rfl, hcc, hnn, hb⟩
      have HNN := Aside.mk hnn
      have HCC := Aside.mk hcc
      replace HE := Aside.mk (blk_below HE.out hb)
      replace HA := Aside.mk (HA.out.step hb)
      clear hb e0 e1 e2 e3 f0 f1 f2 f3 c0 c1 c2 hcc hnn
      have HE9 := Aside.mk (blk_put HE.out 3 (.slice A2 ((listOf x).getD []).length cz) rfl)
      have HR9 := Aside.mk (blk_far HA.out.r (p := ⟨gE, 3, none⟩) HNE.out (.slice A2 ((listOf x).getD []).length cz))
      have HB9 := Aside.mk (HA.out.b.setCell (p := ⟨gE, 3, none⟩) HGE.out (.slice A2 ((listOf x).getD []).length cz))
      have HN9 := Aside.mk (HNN.out.set HE.out (by decide) 3 (.slice A2 ((listOf x).getD []).length cz))
      obtain ⟨e0, e1, e2, e3, f0, f1, f2, f3⟩ := blk_cell4 HE.out
      go_upto_region 20 with (fail)
      clear e0 e1 e2 e3 f0 f1 f2 f3 HA HE HNN
      generalize w5.setCell ⟨gE, 3, none⟩ (.slice A2 ((listOf x).getD []).length cz) = w6 at *
      obtain ⟨e0, e1, e2, e3, f0, f1, f2, f3⟩ := blk_cell4 HE9.out
      obtain ⟨r0, r1, r2, r3, g0, g1, g2, g3⟩ := blk_cell4 HR9.out
      cases hx : (listOf x).isSome with
      | false =>
        have HN := Aside.mk (show resA s = false from by rw [HQ.out]; simp [actG, HNUM.out, HOO.out, HP.out, hx])
        clear hx
        have HF := Aside.mk (fin50 (w0 := w) (R := w.heap.size) (.int .i64 0) (.int .i64 0) (.int .i64 0) (.slice none 0 0) HB9.out (Nat.le_refl _) HR9.out)
        go_wp2
        refine bodyPost_ret (results_ctt rfl _ _ w.heap.size 50 #[.int .i64 0, .int .i64 0, .int .i64 0, .slice none 0 0] (0, 0) _ rfl HF.out.1 Tryd.underlying50 rfl (by kernel_rfl)) rfl ?_
        exact actRes_no HN.out HF.out.2.1
      | true =>
        have HY := Aside.mk (show resA s = true from by rw [HQ.out]; simp [actG, HNUM.out, HOO.out, HP.out, hx])
        have HE1 := Aside.mk (show actV (wordsOf s) = ⟨m, p, 0, (listOf x).getD []⟩ from by rw [HWS.out]; simp [actV, HNUM.out, HOO.out, HP.out])
        have HE2 := Aside.mk (show actN (wordsOf s) = 1 from by rw [HWS.out]; simp [actN, HOO.out, HP.out])
        clear hx
        have HF := Aside.mk (fin50 (w0 := w) (R := w.heap.size) (.int .i64 m) (.int .i64 p) (.int .i64 0) (.slice A2 ((listOf x).getD []).length cz) HB9.out (Nat.le_refl _) HR9.out)
        go_wp2
        refine bodyPost_ret (results_ctt rfl _ _ w.heap.size 50 #[.int .i64 m, .int .i64 p, .int .i64 0, .slice A2 ((listOf x).getD []).length cz] (0, 0) _ rfl HF.out.1 Tryd.underlying50 rfl (by kernel_rfl)) rfl ?_
        exact actRes_yes (d := (listOf x).getD []) HY.out HE1.out HE2.out HCC.out (HF.out.2.2 _ _ HN9.out) HF.out.2.1
    · have HP := Aside.mk h
      clear h
      have q0 : (p == 0) = false := by rw [HP.out]; rfl
      have q1 : (p == 1) = true := by rw [HP.out]; rfl
      have q2 : (p == 2) = false := by rw [HP.out]; rfl
      have q3 : (p == 3) = false := by rw [HP.out]; rfl
      have q4 : (p == 4) = false := by rw [HP.out]; rfl
      have q5 : (p == 5) = false := by rw [HP.out]; rfl
      have q6 : (p == 6) = false := by rw [HP.out]; rfl
      go_wp2_with (go_at_call 18; refine (numw_ x HLX.out _ (HW.out.below HA.out.b)).mono ?_)
      rintro r w5 ⟨rfl, hb⟩
      replace HE := Aside.mk (blk_below HE.out hb)
      replace HA := Aside.mk (HA.out.step hb)
      clear hb e0 e1 e2 e3 f0 f1 f2 f3 c0 c1 c2
      obtain ⟨xv, hxv⟩ : ∃ xv, (numOf x).getD 0 = xv := ⟨_, rfl⟩
      rw [hxv]
      have HE9 := Aside.mk (blk_put HE.out 2 (.int .i64 xv) rfl)
      have HR9 := Aside.mk (blk_far HA.out.r (p := ⟨gE, 2, none⟩) HNE.out (.int .i64 xv))
      have HB9 := Aside.mk (HA.out.b.setCell (p := ⟨gE, 2, none⟩) HGE.out (.int .i64 xv))
      have HXV := Aside.mk hxv
      obtain ⟨e0, e1, e2, e3, f0, f1, f2, f3⟩ := blk_cell4 HE.out
      clear hxv
      go_upto_region 20 with (fail)
      clear e0 e1 e2 e3 f0 f1 f2 f3 HA HE
      generalize w5.setCell ⟨gE, 2, none⟩ (.int .i64 xv) = w6 at *
      obtain ⟨e0, e1, e2, e3, f0, f1, f2, f3⟩ := blk_cell4 HE9.out
      obtain ⟨r0, r1, r2, r3, g0, g1, g2, g3⟩ := blk_cell4 HR9.out
      cases hx : (numOf x).isSome with
      | false =>
        have HN := Aside.mk (show resA s = false from by rw [HQ.out]; simp [actG, HNUM.out, HOO.out, HP.out, hx])
        clear hx
        have HF := Aside.mk (fin50 (w0 := w) (R := w.heap.size) (.int .i64 0) (.int .i64 0) (.int .i64 0) (.slice none 0 0) HB9.out (Nat.le_refl _) HR9.out)
        go_wp2
        refine bodyPost_ret (results_ctt rfl _ _ w.heap.size 50 #[.int .i64 0, .int .i64 0, .int .i64 0, .slice none 0 0] (0, 0) _ rfl HF.out.1 Tryd.underlying50 rfl (by kernel_rfl)) rfl ?_
        exact actRes_no HN.out HF.out.2.1
      | true =>
        have HY := Aside.mk (show resA s = true from by rw [HQ.out]; simp [actG, HNUM.out, HOO.out, HP.out, hx])
        have HE1 := Aside.mk (show actV (wordsOf s) = ⟨m, p, xv, []⟩ from by rw [HWS.out]; simp [actV, HNUM.out, HOO.out, HP.out, HXV.out])
        have HE2 := Aside.mk (show actN (wordsOf s) = 1 from by rw [HWS.out]; simp [actN, HOO.out, HP.out])
        clear hx
        have HF := Aside.mk (fin50 (w0 := w) (R := w.heap.size) (.int .i64 m) (.int .i64 p) (.int .i64 xv) (.slice none 0 0) HB9.out (Nat.le_refl _) HR9.out)
        go_wp2
        refine bodyPost_ret (results_ctt rfl _ _ w.heap.size 50 #[.int .i64 m, .int .i64 p, .int .i64 xv, .slice none 0 0] (0, 0) _ rfl HF.out.1 Tryd.underlying50 rfl (by kernel_rfl)) rfl ?_
        exact actRes_yes (d := []) HY.out HE1.out HE2.out (Nat.le_refl _) (fun hn => absurd rfl hn) HF.out.2.1
    · have HP := Aside.mk h
      clear h
      have q0 : (p == 0) = false := by rw [HP.out]; rfl
      have q1 : (p == 1) = false := by rw [HP.out]; rfl
      have q2 : (p == 2) = false := by rw [HP.out]; rfl
      have q3 : (p == 3) = false := by rw [HP.out]; rfl
      have q4 : (p == 4) = true := by rw [HP.out]; rfl
      have q5 : (p == 5) = false := by rw [HP.out]; rfl
      have q6 : (p == 6) = false := by rw [HP.out]; rfl
      go_wp2_with (go_at_call 18; refine (numw_ x HLX.out _ (HW.out.below HA.out.b)).mono ?_)
      rintro r w5 ⟨rfl, hb⟩
      replace HE := Aside.mk (blk_below HE.out hb)
      replace HA := Aside.mk (HA.out.step hb)
      clear hb e0 e1 e2 e3 f0 f1 f2 f3 c0 c1 c2
      obtain ⟨xv, hxv⟩ : ∃ xv, (numOf x).getD 0 = xv := ⟨_, rfl⟩
      rw [hxv]
      have HE9 := Aside.mk (blk_put HE.out 2 (.int .i64 xv) rfl)
      have HR9 := Aside.mk (blk_far HA.out.r (p := ⟨gE, 2, none⟩) HNE.out (.int .i64 xv))
      have HB9 := Aside.mk (HA.out.b.setCell (p := ⟨gE, 2, none⟩) HGE.out (.int .i64 xv))
      have HXV := Aside.mk hxv
      obtain ⟨e0, e1, e2, e3, f0, f1, f2, f3⟩ := blk_cell4 HE.out
      clear hxv
      go_upto_region 20 with (fail)
      clear e0 e1 e2 e3 f0 f1 f2 f3 HA HE
      generalize w5.setCell ⟨gE, 2, none⟩ (.int .i64 xv) = w6 at *
      obtain ⟨e0, e1, e2, e3, f0, f1, f2, f3⟩ := blk_cell4 HE9.out
      obtain ⟨r0, r1, r2, r3, g0, g1, g2, g3⟩ := blk_cell4 HR9.out
      cases hx : (numOf x).isSome with
      | false =>
        have HN := Aside.mk (show resA s = false from by rw [HQ.out]; simp [actG, HNUM.out, HOO.out, HP.out, hx])
        clear hx
        have HF := Aside.mk (fin50 (w0 := w) (R := w.heap.size) (.int .i64 0) (.int .i64 0) (.int .i64 0) (.slice none 0 0) HB9.out (Nat.le_refl _) HR9.out)
        go_wp2
        refine bodyPost_ret (results_ctt rfl _ _ w.heap.size 50 #[.int .i64 0, .int .i64 0, .int .i64 0, .slice none 0 0] (0, 0) _ rfl HF.out.1 Tryd.underlying50 rfl (by kernel_rfl)) rfl ?_
        exact actRes_no HN.out HF.out.2.1
      | true =>
        have HY := Aside.mk (show resA s = true from by rw [HQ.out]; simp [actG, HNUM.out, HOO.out, HP.out, hx])
        have HE1 := Aside.mk (show actV (wordsOf s) = ⟨m, p, xv, []⟩ from by rw [HWS.out]; simp [actV, HNUM.out, HOO.out, HP.out, HXV.out])
        have HE2 := Aside.mk (show actN (wordsOf s) = 1 from by rw [HWS.out]; simp [actN, HOO.out, HP.out])
        clear hx
        have HF := Aside.mk (fin50 (w0 := w) (R := w.heap.size) (.int .i64 m) (.int .i64 p) (.int .i64 xv) (.slice none 0 0) HB9.out (Nat.le_refl _) HR9.out)
        go_wp2
        refine bodyPost_ret (results_ctt rfl _ _ w.heap.size 50 #[.int .i64 m, .int .i64 p, .int .i64 xv, .slice none 0 0] (0, 0) _ rfl HF.out.1 Tryd.underlying50 rfl (by kernel_rfl)) rfl ?_
        exact actRes_yes (d := []) HY.out HE1.out HE2.out (Nat.le_refl _) (fun hn => absurd rfl hn) HF.out.2.1
    · have HP := Aside.mk h
      clear h
      have q0 : (p == 0) = false := by rw [HP.out]; rfl
      have q1 : (p == 1) = false := by rw [HP.out]; rfl
      have q2 : (p == 2) = false := by rw [HP.out]; rfl
      have q3 : (p == 3) = false := by rw [HP.out]; rfl
      have q4 : (p == 4) = false := by rw [HP.out]; rfl
      have q5 : (p == 5) = false := by rw [HP.out]; rfl
      have q6 : (p == 6) = true := by rw [HP.out]; rfl
      go_wp2_with (go_at_call 18; refine (numw_ x HLX.out _ (HW.out.below HA.out.b)).mono ?_)
      rintro r w5 ⟨rfl, hb⟩
      replace HE := Aside.mk (blk_below HE.out hb)
      replace HA := Aside.mk (HA.out.step hb)
      clear hb e0 e1 e2 e3 f0 f1 f2 f3 c0 c1 c2
      obtain ⟨xv, hxv⟩ : ∃ xv, (numOf x).getD 0 = xv := ⟨_, rfl⟩
      rw [hxv]
      have HE9 := Aside.mk (blk_put HE.out 2 (.int .i64 xv) rfl)
      have HR9 := Aside.mk (blk_far HA.out.r (p := ⟨gE, 2, none⟩) HNE.out (.int .i64 xv))
      have HB9 := Aside.mk (HA.out.b.setCell (p := ⟨gE, 2, none⟩) HGE.out (.int .i64 xv))
      have HXV := Aside.mk hxv
      obtain ⟨e0, e1, e2, e3, f0, f1, f2, f3⟩ := blk_cell4 HE.out
      clear hxv
      go_upto_region 20 with (fail)
      clear e0 e1 e2 e3 f0 f1 f2 f3 HA HE
      generalize w5.setCell ⟨gE, 2, none⟩ (.int .i64 xv) = w6 at *
      obtain ⟨e0, e1, e2, e3, f0, f1, f2, f3⟩ := blk_cell4 HE9.out
      obtain ⟨r0, r1, r2, r3, g0, g1, g2, g3⟩ := blk_cell4 HR9.out
      cases hx : (numOf x).isSome with
      | false =>
        have HN := Aside.mk (show resA s = false from by rw [HQ.out]; simp [actG, HNUM.out, HOO.out, HP.out, hx])
        clear hx
        have HF := Aside.mk (fin50 (w0 := w) (R := w.heap.size) (.int .i64 0) (.int .i64 0) (.int .i64 0) (.slice none 0 0) HB9.out (Nat.le_refl _) HR9.out)
        go_wp2
        refine bodyPost_ret (results_ctt rfl _ _ w.heap.size 50 #[.int .i64 0, .int .i64 0, .int .i64 0, .slice none 0 0] (0, 0) _ rfl HF.out.1 Tryd.underlying50 rfl (by kernel_rfl)) rfl ?_
        exact actRes_no HN.out HF.out.2.1
      | true =>
        have HY := Aside.mk (show resA s = true from by rw [HQ.out]; simp [actG, HNUM.out, HOO.out, HP.out, hx])
        have HE1 := Aside.mk (show actV (wordsOf s) = ⟨m, p, xv, []⟩ from by rw [HWS.out]; simp [actV, HNUM.out, HOO.out, HP.out, HXV.out])
        have HE2 := Aside.mk (show actN (wordsOf s) = 1 from by rw [HWS.out]; simp [actN, HOO.out, HP.out])
        clear hx
        have HF := Aside.mk (fin50 (w0 := w) (R := w.heap.size) (.int .i64 m) (.int .i64 p) (.int .i64 xv) (.slice none 0 0) HB9.out (Nat.le_refl _) HR9.out)
        go_wp2
        refine bodyPost_ret (results_ctt rfl _ _ w.heap.size 50 #[.int .i64 m, .int .i64 p, .int .i64 xv, .slice none 0 0] (0, 0) _ rfl HF.out.1 Tryd.underlying50 rfl (by kernel_rfl)) rfl ?_
        exact actRes_yes (d := []) HY.out HE1.out HE2.out (Nat.le_refl _) (fun hn => absurd rfl hn) HF.out.2.1
/-- The act of a line. -/
theorem act_ (s : List UInt8) (hs : s.length ≤ 65536) (w : World) (hw : LibW w) : Calls Tryd.prog 30 #[.string (bs s)] w fun e w' => ActRes s w w' e := by
  cases hlb : lineB s with
  | false => exact act_none s hs w hw (.inl hlb)
  | true =>
    match hws : wordsOf s with
    | [] => exact act_none s hs w hw (.inr (.inl (by rw [hws]; simp)))
    | [_] => exact act_none s hs w hw (.inr (.inl (by rw [hws]; simp)))
    | [t, o] => exact act_two s hs w hw hlb t o hws
    | [t, o, x] => exact act_three s hs w hw hlb t o x hws
    | _ :: _ :: _ :: _ :: _ => exact act_none s hs w hw (.inr (.inr (by rw [hws]; simp)))
end Go.Proofs.YtabcdcnnamflfaaDoor.Wd
