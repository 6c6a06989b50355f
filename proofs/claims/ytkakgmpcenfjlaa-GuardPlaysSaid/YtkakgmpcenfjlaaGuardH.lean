/- GuardPlays, walked: producers, and what may not be. -/
import Derived.Test.YtkakgmpcenfjlaaGuardG
set_option linter.unusedVariables false
set_option linter.unusedSimpArgs false
set_option maxRecDepth 100000
namespace Go.Proofs.Ytkakgmpcenfjlaa.Handle
open Go.RowKit Go.Proofs.YtkakgmpcenfjlaaW.PrintWords
set_option maxHeartbeats 4000000 in
theorem walkPlaysP (h : RH) (st : Int) (A : Option Addr) (c : Nat) (ds : List DoS) (X : Nat → List Int) (W : World) (hst1 : 0 ≤ st) (hst2 : st < 18446744073709551616)
    (hat : ∀ i (h : i < ds.length), ∃ b off, A = some ⟨b, off, none⟩ ∧ b < W.heap.size ∧ DoAt W b off i ds[i] ∧ Kd.C (Kd.int .i64) W ds[i].A ds[i].l (X i) ∧ ds[i].l ≤ ds[i].C)
    (hwf : ∀ d ∈ ds, (-9223372036854775808 ≤ d.n ∧ d.n < 9223372036854775808) ∧ 0 ≤ d.at_) (hr : rightB h.cap = true) (hp : h.pr = true) (hlen : ds.length ≤ 100) :
    Calls Try.prog 6 #[h.val, .int .u64 st, .slice A ds.length c] W fun e w' => e = .returned (.bool true) ∧ Below W.heap.size W w' := by
  unfold RH.val
  have HP := Aside.mk hp
  have HAT := Aside.mk hat
  have HWF := Aside.mk hwf
  have HST := Aside.mk (show 0 ≤ st ∧ st < 18446744073709551616 from ⟨hst1, hst2⟩)
  clear hp hat hwf hst1 hst2
  go_enter Try.func6, Try.ntmps6
  go_wp2_with fail
  have B1 := below_alloc_ W (.cells #[.int .i64 h.cap, .bool h.pr, .bool h.held, .int .u64 h.fr, .int .i64 h.n, .int .i64 h.gate, .int .i64 h.upto] 52)
  have z1 : (W.alloc (.cells #[.int .i64 h.cap, .bool h.pr, .bool h.held, .int .u64 h.fr, .int .i64 h.n, .int .i64 h.gate, .int .i64 h.upto] 52)).heap.size = W.heap.size + 1 := by simp
  generalize W.alloc (.cells #[.int .i64 h.cap, .bool h.pr, .bool h.held, .int .u64 h.fr, .int .i64 h.n, .int .i64 h.gate, .int .i64 h.upto] 52) = w1 at *
  have hM := Bx.new w1 #[.int .i64 h.cap, .bool h.pr, .bool false, .int .u64 0, .int .i64 0, .int .i64 0, .int .i64 0] 52
  have B2 := B1.trans ((below_alloc_ w1 (.cells #[.int .i64 h.cap, .bool h.pr, .bool false, .int .u64 0, .int .i64 0, .int .i64 0, .int .i64 0] 52)).mono B1.size)
  rw [z1] at hM
  have hp2 : P2 W (w1.alloc (.cells #[.int .i64 h.cap, .bool h.pr, .bool false, .int .u64 0, .int .i64 0, .int .i64 0, .int .i64 0] 52)) (W.heap.size + 1) h := ⟨B2, hM, by omega⟩
  generalize w1.alloc (.cells #[.int .i64 h.cap, .bool h.pr, .bool false, .int .u64 0, .int .i64 0, .int .i64 0, .int .i64 0] 52) = w2 at *
  generalize W.heap.size + 1 = g at *
  clear z1 B1 hM B2
  have hHD := keep2 (⟨rfl, rfl, rfl, Nat.le_refl _, fun _ _ => rfl⟩ : Below w2.heap.size w2 w2.drew) ⟨hp2.hm.get 0 rfl, hp2⟩
  go_region_held3 (fun w' => w'.cell? ⟨g, 0, none⟩ = some (.int .i64 h.cap) ∧ P2 W w' g h) (first | exact hHD | exact keep2 (by assumption) (by assumption))
    (first | (go_at_call 34; refine (of32B _ _).mono ?_; rintro e w3 ⟨rfl, b3⟩) | (go_at_call 33; refine (consumer32 _ _ _ hr).mono ?_; rintro e w4 ⟨rfl, sx, b4, zx⟩) | (go_at_call 22; refine (consumer64 _ _ _ hr).mono ?_; rintro e w5 ⟨rfl, sy, b5, zy⟩))
  have hq := of2 (by assumption : w5.cell? ⟨g, 0, none⟩ = some (.int .i64 h.cap) ∧ P2 W w5 g h)
  obtain ⟨k0, k1, k2, k3, k4, k5, k6⟩ := hq.hm.cells7
  rw [HP.out] at k1
  clear hHD sx sy b3 b4 b5 zx zy hp2
  go_wp2_with fail
  have hHD := keep2 (⟨rfl, rfl, rfl, Nat.le_refl _, fun _ _ => rfl⟩ : Below w5.heap.size w5 w5.drew) ⟨hq.hm.get 0 rfl, hq⟩
  clear k0 k1 k2 k3 k4 k5 k6
  go_region_held3 (fun w' => w'.cell? ⟨g, 0, none⟩ = some (.int .i64 h.cap) ∧ P2 W w' g h) (first | exact hHD | exact keep2 (by assumption) (by assumption)) ((first | (go_at_call 35; refine (producer32 _ _ hr).mono ?_; rintro e w6 ⟨rfl, sx, b6, zx⟩) | (go_at_call 36; refine (producer64 _ _ hr).mono ?_; rintro e w7 ⟨rfl, sy, b7, zy⟩)))
  have hq2 := of2 (by assumption : w7.cell? ⟨g, 0, none⟩ = some (.int .i64 h.cap) ∧ P2 W w7 g h)
  have hgl := hq.hm.lt
  have hpw : PW W w7 w5.heap.size w6.heap.size g (newP h.cap) (newP h.cap) ⟨h.cap, h.pr, false, 0, 0, 0, 0⟩ :=
    ⟨hq2.B, sx.old b7, sy, hq2.hm, by have e : w5.drew.heap.size = w5.heap.size := rfl; omega, by omega, by have e : w5.drew.heap.size = w5.heap.size := rfl; omega, hq.B.size, by have e : w5.drew.heap.size = w5.heap.size := rfl; have := hq.B.size; omega, hq2.lg⟩
  have hc30 := (right_bd hr).2
  have hrel : RelG h.cap st 0 ⟨h.cap, h.pr, false, 0, 0, 0, 0⟩ (newP h.cap) (newP h.cap) :=
    ⟨rfl, rfl, rfl, HP.out.symm, HP.out.symm, rfl, rfl, rfl, rfl, rfl, rfl, Int.le_refl 0, fun _ => rfl, fun _ => ⟨rfl, rfl, rfl, rfl, rfl, rfl⟩, fun hx => by have : h.pr = false := hx; rw [HP.out] at this; exact absurd this (by decide),
      by show 0 ≤ (0 : Int) ∧ (0 : Int) ≤ 0 ∧ (0 : Int) ≤ 0 + h.cap ∧ (0 : Int) ≤ ((0 : Nat) : Int) * 1073741824; have := (right_bd hr).1; omega⟩
  clear hq hq2 hHD sx sy b6 b7 hgl
  generalize w5.heap.size = x at *
  generalize w6.heap.size = y at *
  clear zx zy
  have HPW := Aside.mk hpw
  have HREL := Aside.mk hrel
  have HR := Aside.mk hr
  have HC30 := Aside.mk hc30
  obtain ⟨k0, k1, k2, k3, k4, k5, k6⟩ := hpw.hm.cells7
  simp only at k0 k1 k2 k3 k4 k5 k6
  rw [HP.out] at k1
  have tlen : decide (100 < (ds.length : Int)) = false := decide_eq_false (by omega)
  clear hpw hrel hc30
  go_wp2_with (go_at_call 23; refine (refR _ _).mono ?_; rintro e w' ⟨rfl, rfl⟩)
  clear k0 k1 k2 k3 k4 k5 k6 hr
  go_loopw [10] (fun v wr => ∃ (i : Nat) (m : RH) (sx sy : HS), i ≤ ds.length ∧ v = .int .i64 i ∧ PW W wr x y g sx sy m ∧ RelG h.cap st i m sx sy) (fun v _ => ds.length - (intOf v).toNat)
  case atStart => exact ⟨0, _, _, _, Nat.zero_le _, rfl, HPW.out, HREL.out⟩
  case round =>
    obtain ⟨i, m, sx, sy, hi, rfl, hpw, hrel⟩ := hrel
    have HPW := Aside.mk hpw
    have HREL := Aside.mk hrel
    clear hrel
    by_cases hlt : i < ds.length
    · have t2 : decide ((i : Int) < (ds.length : Int)) = true := decide_eq_true (by omega)
      have hil : (i : Int) < (ds.length : Int) := by omega
      obtain ⟨b, off, rfl, hbW, hD0, hX0, hlC⟩ := HAT.out i hlt
      obtain ⟨⟨hn1, hn2⟩, hat0⟩ := HWF.out ds[i] (List.getElem_mem hlt)
      have HN := Aside.mk (show (-9223372036854775808 ≤ ds[i].n ∧ ds[i].n < 9223372036854775808) ∧ 0 ≤ ds[i].at_ from ⟨⟨hn1, hn2⟩, hat0⟩)
      have HI := Aside.mk hlt
      have HI1 := Aside.mk (show i < 100 by omega)
      generalize ds[i] = d at *
      have HXL := Aside.mk (show (X i).length = d.l from hX0.1)
      have HD0 := Aside.mk hD0
      have HX0 := Aside.mk hX0
      have HLC := Aside.mk hlC
      have HBW := Aside.mk hbW
      obtain ⟨q0, q1, q2, q3, q4, q5⟩ := hD0.old hpw.B hbW
      clear hn1 hn2 hat0 hD0 hX0 hlC hpw hlt HAT HWF
      generalize X i = xs at *
      have hD := Aside.mk (show RW W wr x y g b off i sx sy m d xs from ⟨HPW.out, HD0.out, HBW.out, HX0.out, HXL.out, HLC.out⟩)
      by_cases c1 : 100 < d.l
      · have t3 : decide (100 < (d.l : Int)) = true := decide_eq_true (by omega)
        go_wp2_with (go_at_call 24; refine (live _).mono ?_; rintro e w6 ⟨rfl, b6⟩)
        go_ret
        exact ⟨rfl, HPW.out.B.trans (b6.mono HPW.out.B.size)⟩
      have t3 : decide (100 < (d.l : Int)) = false := decide_eq_false (by omega)
      obtain ⟨F, hF⟩ : ∃ F, F = (decide (d.kind = 3) && (decide (d.n > 1073741824) || decide (d.n < -1073741824))) := ⟨_, rfl⟩
      have hfc : Calls Try.prog 37 #[.agg #[.int .i64 d.kind, .int .i64 d.n, .int .u64 d.at_, .int .i64 d.op, .int .i64 d.cn, .slice d.A d.l d.C]] wr fun e w' => e = .returned (.bool F) ∧ Below wr.heap.size wr w' := by
        have e1 : QGm.sakialaw14_far.f d.kind d.n d.at_ d.op d.cn xs = some F := by
          rw [hF]
          unfold QGm.sakialaw14_far.f
          by_cases k : d.kind = 3 <;> by_cases k2 : d.n > 1073741824 <;> simp [k, k2]
        have e2 := QGm.sakialaw14_far.calls d.kind d.n d.at_ d.op d.cn d.A d.C xs F wr
        rw [hD.out.lX] at e2
        exact e2 (Kd.C_below hD.out.hX hD.out.pw.B) hD.out.lC e1
      have HF := Aside.mk hF
      clear hF
      go_wp2_with fail
      refine hfc.mono ?_
      clear hfc
      rintro e w6 ⟨rfl, b6⟩
      replace hD := Aside.mk (hD.out.step b6)
      clear HPW HD0 HBW HX0 HXL HLC q0 q1 q2 q3 q4 q5 b6
      cases F with
      | true =>
        go_wp2_with (go_at_call 24; refine (live _).mono ?_; rintro e w7 ⟨rfl, b7⟩)
        go_ret
        exact ⟨rfl, hD.out.pw.B.trans (b7.mono hD.out.pw.B.size)⟩
      | false =>
        obtain ⟨q0, q1, q2, q3, q4, q5, k0, k1, k2, k3, k4, k5, k6, _⟩ := hD.out.S
        have hst := Aside.mk (HREL.out.step d HC30.out HI1.out HN.out.1.1 HN.out.1.2 HN.out.2 (fun k => by have := HF.out; simp [k] at this; omega))
        obtain ⟨r, hr⟩ : ∃ r, r = mayG (wrap64 (m.upto - m.gate)) m.cap m.pr m.held d.op d.cn (d.l : Int) := ⟨_, rfl⟩
        have hMay : ∀ w, Kd.C (Kd.int .i64) w d.A d.l xs → Calls Try.prog 38 #[.agg #[.int .i64 m.cap, .bool m.pr, .bool m.held, .int .u64 m.fr, .int .i64 m.n, .int .i64 m.gate, .int .i64 m.upto], .agg #[.int .i64 d.op, .int .i64 d.cn, .slice d.A d.l d.C]] w fun e w' => e = .returned (.int .i64 r) ∧ Below w.heap.size w w' := by
          intro w hx
          have e2 := QGm.sakiaref14_May.calls 10 m.cap m.pr m.held m.fr m.n m.gate m.upto d.op d.cn d.A d.C xs r w
          have e1 := refMay_ok m.cap m.pr m.held m.fr m.n m.gate m.upto d.op d.cn xs
          rw [hD.out.lX] at e2 e1
          exact e2 hx hD.out.lC (e1.trans (by rw [hr]))
        go_wp2_with fail
        go_still_tail 6, (by kernel_rfl)
        repeat still_step
        try (refine wpStill_nil ?_)
        try (change wpList _ _ _ _ _ w6.drew)
        replace hD := Aside.mk (hD.out.step (⟨rfl, rfl, rfl, Nat.le_refl _, fun _ _ => rfl⟩ : Below w6.heap.size w6 w6.drew))
        go_wp2_with fail
        refine (hMay _ (Kd.C_below hD.out.hX hD.out.pw.B)).mono ?_
        rintro e w7 ⟨rfl, b7⟩
        replace hD := Aside.mk (hD.out.step b7)
        clear hMay q0 q1 q2 q3 q4 q5 k0 k1 k2 k3 k4 k5 k6 b7
        obtain ⟨q0, q1, q2, q3, q4, q5, k0, k1, k2, k3, k4, k5, k6, _⟩ := hD.out.S
        have e32 : may32E sx d.op d.cn d.l = r := by rw [may32_eq, hr, HREL.out.d32 HC30.out (Nat.le_of_lt HI1.out), HREL.out.xc, HREL.out.xp, HREL.out.xh, HREL.out.mc]
        have e64 : may64E sy d.op d.cn d.l = r := by rw [may64_eq, hr, HREL.out.d64 HC30.out (Nat.le_of_lt HI1.out), HREL.out.yc, HREL.out.yp, HREL.out.yh, HREL.out.mc]
        have E32 := Aside.mk e32
        have E64 := Aside.mk e64
        clear e32 e64 hr
        go_wp2_with fail
        go_at_call 39
        refine (may32 x sx d.op d.cn d.A d.l d.C _ hD.out.pw.hx).mono ?_
        rintro e w8 ⟨rfl, b8⟩
        rw [E32.out]
        replace hD := Aside.mk (hD.out.step b8)
        clear q0 q1 q2 q3 q4 q5 k0 k1 k2 k3 k4 k5 k6 b8
        obtain ⟨q0, q1, q2, q3, q4, q5, k0, k1, k2, k3, k4, k5, k6, _⟩ := hD.out.S
        go_wp2_with fail
        go_at_call 40
        refine (may64 y sy d.op d.cn d.A d.l d.C _ hD.out.pw.hy).mono ?_
        rintro e w9 ⟨rfl, b9⟩
        rw [E64.out]
        replace hD := Aside.mk (hD.out.step b9)
        clear q0 q1 q2 q3 q4 q5 k0 k1 k2 k3 k4 k5 k6 b9 E32 E64
        go_wp2_with fail
        have hHD := (hD.out.step (⟨rfl, rfl, rfl, Nat.le_refl _, fun _ _ => rfl⟩ : Below w9.heap.size w9 w9.drew)).S
        have L := Aside.mk hD.out.pw.lts
        have L1 := Aside.mk L.out.1
        have N1 := Aside.mk (Nat.ne_of_lt L.out.2.1)
        have N2 := Aside.mk (Nat.ne_of_lt L.out.2.2.1)
        have N3 := Aside.mk (Nat.ne_of_lt L.out.2.2.2)
        obtain ⟨⟨n, ok⟩, hno⟩ : ∃ p, p = modelF d m := ⟨_, rfl⟩
        have hmod : ∀ w, Kd.C (Kd.int .i64) w d.A d.l xs → Calls Try.prog 41 #[.agg #[.int .i64 m.cap, .bool m.pr, .bool m.held, .int .u64 m.fr, .int .i64 m.n, .int .i64 m.gate, .int .i64 m.upto], .agg #[.int .i64 d.kind, .int .i64 d.n, .int .u64 d.at_, .int .i64 d.op, .int .i64 d.cn, .slice d.A d.l d.C]] w fun e w' => e = .returned (.tuple #[.agg #[.int .i64 n.cap, .bool n.pr, .bool n.held, .int .u64 n.fr, .int .i64 n.n, .int .i64 n.gate, .int .i64 n.upto], .bool ok]) ∧ Below w.heap.size w w' := by
          intro w hx
          have e1 := model_ok d m xs
          rw [← hno] at e1
          have e2 := QGm.sakialaw14_model.calls _ _ _ _ _ _ _ _ _ _ _ _ d.A d.C xs _ _ _ _ _ _ _ _ w (by rw [hD.out.lX]; exact hx) (by rw [hD.out.lX]; exact hD.out.lC) e1
          rw [hD.out.lX] at e2
          exact e2
        have hst2 := hst.out
        rw [← hno] at hst2
        have HST2 := Aside.mk hst2
        have HMOD := Aside.mk hmod
        clear hst hst2 hno hmod
        go_region_held3 (fun w' => w'.cell? ⟨b, off + i * 6, none⟩ = some (.int .i64 d.kind) ∧ w'.cell? ⟨b, off + i * 6 + 1, none⟩ = some (.int .i64 d.n) ∧ w'.cell? ⟨b, off + i * 6 + 2, none⟩ = some (.int .u64 d.at_) ∧ w'.cell? ⟨b, off + i * 6 + 3, none⟩ = some (.int .i64 d.op) ∧ w'.cell? ⟨b, off + i * 6 + 4, none⟩ = some (.int .i64 d.cn) ∧ w'.cell? ⟨b, off + i * 6 + 5, none⟩ = some (.slice d.A d.l d.C) ∧ w'.cell? ⟨g, 0, none⟩ = some (.int .i64 m.cap) ∧ w'.cell? ⟨g, 1, none⟩ = some (.bool m.pr) ∧ w'.cell? ⟨g, 2, none⟩ = some (.bool m.held) ∧ w'.cell? ⟨g, 3, none⟩ = some (.int .u64 m.fr) ∧ w'.cell? ⟨g, 4, none⟩ = some (.int .i64 m.n) ∧ w'.cell? ⟨g, 5, none⟩ = some (.int .i64 m.gate) ∧ w'.cell? ⟨g, 6, none⟩ = some (.int .i64 m.upto) ∧ RW W w' x y g b off i sx sy m d xs) (first | (with_reducible exact hHD) | (with_reducible exact (hTT.out.off (Only.set7 _ _ _ _ _ _ _ _ _) L1.out N1.out N2.out N3.out).S) | (with_reducible exact (hTT.out.step (below_alloc_ _ _)).S) | (with_reducible exact hTT.out.S) | (with_reducible exact keepR (below_alloc_ _ _) (by assumption)))
          (first | ((with_reducible refine (HMOD.out _ (Kd.C_below hD.out.hX (ofR (by assumption)).pw.B)).mono ?_); rintro e w10 ⟨rfl, b10⟩; have hTT : Aside (RW W w10 x y g b off i sx sy m d xs) := Aside.mk ((ofR (by assumption)).step b10); (try (with_reducible (have hbq := boxA (w9 := w9) (w10 := w10) b10); obtain ⟨hbx, z0, z1, z2, z3, z4, z5, z6, fz⟩ := hbq; have HBX := Aside.mk hbx; clear hbx))))
        · rename_i hH
          have hRN := ofR hH
          have hBn := Bx.new w10 #[.int .i64 n.cap, .bool n.pr, .bool n.held, .int .u64 n.fr, .int .i64 n.n, .int .i64 n.gate, .int .i64 n.upto] 52
          clear hH hTT b10 HMOD hHD hD L L1 N1 N2 N3
          generalize (w10.alloc (.cells #[.int .i64 n.cap, .bool n.pr, .bool n.held, .int .u64 n.fr, .int .i64 n.n, .int .i64 n.gate, .int .i64 n.upto] 52)) = wn at hRN hBn ⊢
          generalize w10.heap.size = nb at hBn ⊢
          have hD := Aside.mk hRN
          obtain ⟨q0, q1, q2, q3, q4, q5, k0, k1, k2, k3, k4, k5, k6, _⟩ := hD.out.S
          obtain ⟨n0, n1, n2, n3, n4, n5, n6⟩ := hBn.cells7
          have fzg : ∀ i, wn.frozen? ⟨g, i, none⟩ = false := hD.out.pw.hm.frozen
          clear hRN hBn
          go_upto_region 19 with (fail)
          have hRM : RW W (((((((wn.setCell ⟨g, 0, none⟩ (.int .i64 n.cap)).setCell ⟨g, 1, none⟩ (.bool n.pr)).setCell ⟨g, 2, none⟩ (.bool n.held)).setCell ⟨g, 3, none⟩ (.int .u64 n.fr)).setCell ⟨g, 4, none⟩ (.int .i64 n.n)).setCell ⟨g, 5, none⟩ (.int .i64 n.gate)).setCell ⟨g, 6, none⟩ (.int .i64 n.upto)) x y g b off i sx sy n d xs := ⟨hD.out.pw.mset n, hD.out.D, hD.out.hb, hD.out.hX, hD.out.lX, hD.out.lC⟩
          clear q0 q1 q2 q3 q4 q5 k0 k1 k2 k3 k4 k5 k6 n0 n1 n2 n3 n4 n5 n6 fzg hD
          generalize (((((((wn.setCell ⟨g, 0, none⟩ (.int .i64 n.cap)).setCell ⟨g, 1, none⟩ (.bool n.pr)).setCell ⟨g, 2, none⟩ (.bool n.held)).setCell ⟨g, 3, none⟩ (.int .u64 n.fr)).setCell ⟨g, 4, none⟩ (.int .i64 n.n)).setCell ⟨g, 5, none⟩ (.int .i64 n.gate)).setCell ⟨g, 6, none⟩ (.int .i64 n.upto)) = wm at hRM ⊢
          have hD := Aside.mk hRM
          clear hRM
          obtain ⟨q0, q1, q2, q3, q4, q5, k0, k1, k2, k3, k4, k5, k6, _⟩ := hD.out.S
          go_wp2_with fail
          go_at_call 42
          refine (smallT x sx d _ hD.out.pw.hx).mono ?_
          rintro e wa ⟨rfl, hsa, hoa⟩
          rw [HST2.out.2.1]
          replace hD := Aside.mk (RW.mk (hD.out.pw.small hoa hsa) hD.out.D hD.out.hb hD.out.hX hD.out.lX hD.out.lC)
          clear q0 q1 q2 q3 q4 q5 k0 k1 k2 k3 k4 k5 k6 hsa hoa
          obtain ⟨q0, q1, q2, q3, q4, q5, k0, k1, k2, k3, k4, k5, k6, _⟩ := hD.out.S
          go_wp2_with fail
          go_at_call 27
          refine (greatT y sy d _ hD.out.pw.hy).mono ?_
          rintro e wb ⟨rfl, hsb, hob⟩
          rw [HST2.out.2.2]
          replace hD := Aside.mk (RW.mk (hD.out.pw.great hob hsb) hD.out.D hD.out.hb hD.out.hX hD.out.lX hD.out.lC)
          clear q0 q1 q2 q3 q4 q5 k0 k1 k2 k3 k4 k5 k6 hsb hob
          obtain ⟨q0, q1, q2, q3, q4, q5, k0, k1, k2, k3, k4, k5, k6, _⟩ := hD.out.S
          go_wp2_with fail
          go_at_call 43
          refine (alikeG HST2.out.1 HC30.out HI1.out x y _ hD.out.pw.hx hD.out.pw.hy).mono ?_
          rintro e wc ⟨rfl, bc⟩
          replace hD := Aside.mk (hD.out.step bc)
          clear q0 q1 q2 q3 q4 q5 k0 k1 k2 k3 k4 k5 k6 bc
          go_wp2_with fail
          go_roundw
          case rel =>
            have := HI.out
            exact ⟨i + 1, n, _, _, by omega, by go_num, hD.out.pw, HST2.out.1⟩
          case measure =>
            have := HI.out
            simp [intOf]
            omega
        · rename_i hH
          have hRN := ofR hH
          have hBn := HBX.out.set7 (.int .i64 n.cap) (.bool n.pr) (.bool n.held) (.int .u64 n.fr) (.int .i64 n.n) (.int .i64 n.gate) (.int .i64 n.upto)
          clear hH hTT b10 HMOD hHD hD L L1 N1 N2 N3 HBX fz z0 z1 z2 z3 z4 z5 z6
          generalize (((((((w10.setCell ⟨w9.heap.size, 0, none⟩ (.int .i64 n.cap)).setCell ⟨w9.heap.size, 1, none⟩ (.bool n.pr)).setCell ⟨w9.heap.size, 2, none⟩ (.bool n.held)).setCell ⟨w9.heap.size, 3, none⟩ (.int .u64 n.fr)).setCell ⟨w9.heap.size, 4, none⟩ (.int .i64 n.n)).setCell ⟨w9.heap.size, 5, none⟩ (.int .i64 n.gate)).setCell ⟨w9.heap.size, 6, none⟩ (.int .i64 n.upto)) = wn at hRN hBn ⊢
          generalize w9.heap.size = nb at hBn ⊢
          have hD := Aside.mk hRN
          obtain ⟨q0, q1, q2, q3, q4, q5, k0, k1, k2, k3, k4, k5, k6, _⟩ := hD.out.S
          obtain ⟨n0, n1, n2, n3, n4, n5, n6⟩ := hBn.cells7
          have fzg : ∀ i, wn.frozen? ⟨g, i, none⟩ = false := hD.out.pw.hm.frozen
          clear hRN hBn
          go_upto_region 19 with (fail)
          have hRM : RW W (((((((wn.setCell ⟨g, 0, none⟩ (.int .i64 n.cap)).setCell ⟨g, 1, none⟩ (.bool n.pr)).setCell ⟨g, 2, none⟩ (.bool n.held)).setCell ⟨g, 3, none⟩ (.int .u64 n.fr)).setCell ⟨g, 4, none⟩ (.int .i64 n.n)).setCell ⟨g, 5, none⟩ (.int .i64 n.gate)).setCell ⟨g, 6, none⟩ (.int .i64 n.upto)) x y g b off i sx sy n d xs := ⟨hD.out.pw.mset n, hD.out.D, hD.out.hb, hD.out.hX, hD.out.lX, hD.out.lC⟩
          clear q0 q1 q2 q3 q4 q5 k0 k1 k2 k3 k4 k5 k6 n0 n1 n2 n3 n4 n5 n6 fzg hD
          generalize (((((((wn.setCell ⟨g, 0, none⟩ (.int .i64 n.cap)).setCell ⟨g, 1, none⟩ (.bool n.pr)).setCell ⟨g, 2, none⟩ (.bool n.held)).setCell ⟨g, 3, none⟩ (.int .u64 n.fr)).setCell ⟨g, 4, none⟩ (.int .i64 n.n)).setCell ⟨g, 5, none⟩ (.int .i64 n.gate)).setCell ⟨g, 6, none⟩ (.int .i64 n.upto)) = wm at hRM ⊢
          have hD := Aside.mk hRM
          clear hRM
          obtain ⟨q0, q1, q2, q3, q4, q5, k0, k1, k2, k3, k4, k5, k6, _⟩ := hD.out.S
          go_wp2_with fail
          go_at_call 42
          refine (smallT x sx d _ hD.out.pw.hx).mono ?_
          rintro e wa ⟨rfl, hsa, hoa⟩
          rw [HST2.out.2.1]
          replace hD := Aside.mk (RW.mk (hD.out.pw.small hoa hsa) hD.out.D hD.out.hb hD.out.hX hD.out.lX hD.out.lC)
          clear q0 q1 q2 q3 q4 q5 k0 k1 k2 k3 k4 k5 k6 hsa hoa
          obtain ⟨q0, q1, q2, q3, q4, q5, k0, k1, k2, k3, k4, k5, k6, _⟩ := hD.out.S
          go_wp2_with fail
          go_at_call 27
          refine (greatT y sy d _ hD.out.pw.hy).mono ?_
          rintro e wb ⟨rfl, hsb, hob⟩
          rw [HST2.out.2.2]
          replace hD := Aside.mk (RW.mk (hD.out.pw.great hob hsb) hD.out.D hD.out.hb hD.out.hX hD.out.lX hD.out.lC)
          clear q0 q1 q2 q3 q4 q5 k0 k1 k2 k3 k4 k5 k6 hsb hob
          obtain ⟨q0, q1, q2, q3, q4, q5, k0, k1, k2, k3, k4, k5, k6, _⟩ := hD.out.S
          go_wp2_with fail
          go_at_call 43
          refine (alikeG HST2.out.1 HC30.out HI1.out x y _ hD.out.pw.hx hD.out.pw.hy).mono ?_
          rintro e wc ⟨rfl, bc⟩
          replace hD := Aside.mk (hD.out.step bc)
          clear q0 q1 q2 q3 q4 q5 k0 k1 k2 k3 k4 k5 k6 bc
          go_wp2_with fail
          go_roundw
          case rel =>
            have := HI.out
            exact ⟨i + 1, n, _, _, by omega, by go_num, hD.out.pw, HST2.out.1⟩
          case measure =>
            have := HI.out
            simp [intOf]
            omega
    · have t2 : decide ((i : Int) < (ds.length : Int)) = false := decide_eq_false (by omega)
      obtain ⟨k0, k1, k2, k3, k4, k5, k6⟩ := hpw.hm.cells7
      have HI2 := Aside.mk (show i ≤ 100 by omega)
      clear hpw
      go_wp2_with fail
      refine (alikeG HREL.out HC30.out HI2.out x y _ HPW.out.hx HPW.out.hy).mono ?_
      rintro e w6 ⟨rfl, b6⟩
      have HPW2 := Aside.mk (HPW.out.step b6)
      clear b6 k0 k1 k2 k3 k4 k5 k6
      go_wp2_with (go_at_call 24; refine (live _).mono ?_; rintro e w7 ⟨rfl, b7⟩)
      go_ret
      exact ⟨rfl, HPW2.out.B.trans (b7.mono HPW2.out.B.size)⟩
set_option maxHeartbeats 4000000 in
theorem walkPlaysCL (h : RH) (st : Int) (A : Option Addr) (n c : Nat) (W : World) (hr : rightB h.cap = true) (hp : h.pr = false) (hn : 100 < n) :
    Calls Try.prog 6 #[h.val, .int .u64 st, .slice A n c] W fun e w' => e = .returned (.bool true) ∧ Below W.heap.size W w' := by
  unfold RH.val
  have HP := Aside.mk hp
  clear hp
  go_enter Try.func6, Try.ntmps6
  go_wp2_with fail
  have B1 := below_alloc_ W (.cells #[.int .i64 h.cap, .bool h.pr, .bool h.held, .int .u64 h.fr, .int .i64 h.n, .int .i64 h.gate, .int .i64 h.upto] 52)
  have z1 : (W.alloc (.cells #[.int .i64 h.cap, .bool h.pr, .bool h.held, .int .u64 h.fr, .int .i64 h.n, .int .i64 h.gate, .int .i64 h.upto] 52)).heap.size = W.heap.size + 1 := by simp
  generalize W.alloc (.cells #[.int .i64 h.cap, .bool h.pr, .bool h.held, .int .u64 h.fr, .int .i64 h.n, .int .i64 h.gate, .int .i64 h.upto] 52) = w1 at *
  have hM := Bx.new w1 #[.int .i64 h.cap, .bool h.pr, .bool false, .int .u64 0, .int .i64 0, .int .i64 0, .int .i64 0] 52
  have B2 := B1.trans ((below_alloc_ w1 (.cells #[.int .i64 h.cap, .bool h.pr, .bool false, .int .u64 0, .int .i64 0, .int .i64 0, .int .i64 0] 52)).mono B1.size)
  rw [z1] at hM
  have hp2 : P2 W (w1.alloc (.cells #[.int .i64 h.cap, .bool h.pr, .bool false, .int .u64 0, .int .i64 0, .int .i64 0, .int .i64 0] 52)) (W.heap.size + 1) h := ⟨B2, hM, by omega⟩
  generalize w1.alloc (.cells #[.int .i64 h.cap, .bool h.pr, .bool false, .int .u64 0, .int .i64 0, .int .i64 0, .int .i64 0] 52) = w2 at *
  generalize W.heap.size + 1 = g at *
  clear z1 B1 hM B2
  have hHD := keep2 (⟨rfl, rfl, rfl, Nat.le_refl _, fun _ _ => rfl⟩ : Below w2.heap.size w2 w2.drew) ⟨hp2.hm.get 0 rfl, hp2⟩
  go_region_held3 (fun w' => w'.cell? ⟨g, 0, none⟩ = some (.int .i64 h.cap) ∧ P2 W w' g h) (first | exact hHD | exact keep2 (by assumption) (by assumption))
    (first | (go_at_call 34; refine (of32B _ _).mono ?_; rintro e w3 ⟨rfl, b3⟩) | (go_at_call 33; refine (consumer32 _ _ _ hr).mono ?_; rintro e w4 ⟨rfl, sx, b4, zx⟩) | (go_at_call 22; refine (consumer64 _ _ _ hr).mono ?_; rintro e w5 ⟨rfl, sy, b5, zy⟩))
  have hq := of2 (by assumption : w5.cell? ⟨g, 0, none⟩ = some (.int .i64 h.cap) ∧ P2 W w5 g h)
  have hgl := hp2.hm.lt
  have hpw : PW W w5 w3.heap.size w4.heap.size g (newC h.cap (st % 4294967296)) (newC h.cap st) ⟨h.cap, h.pr, false, 0, 0, 0, 0⟩ :=
    ⟨hq.B, sx.old b5, sy, hq.hm, by omega, by have := b3.size; have e : w2.drew.heap.size = w2.heap.size := rfl; omega, by have := b3.size; have := b4.size; have e : w2.drew.heap.size = w2.heap.size := rfl; omega, by have := b3.size; have := hp2.B.size; have e : w2.drew.heap.size = w2.heap.size := rfl; omega, by have := b3.size; have := b4.size; have := hp2.B.size; have e : w2.drew.heap.size = w2.heap.size := rfl; omega, hq.lg⟩
  obtain ⟨k0, k1, k2, k3, k4, k5, k6⟩ := hpw.hm.cells7
  rw [HP.out] at k1
  have HPW := Aside.mk hpw
  have tlen : decide (100 < (n : Int)) = true := decide_eq_true (by omega)
  clear hpw
  go_wp2_with (first | (go_at_call 23; refine (refR _ _).mono ?_; rintro e w' ⟨rfl, rfl⟩) | (go_at_call 24; refine (live _).mono ?_; rintro e w8 ⟨rfl, b8⟩))
  go_ret
  exact ⟨rfl, HPW.out.B.trans (b8.mono HPW.out.B.size)⟩
set_option maxHeartbeats 4000000 in
theorem walkPlaysPL (h : RH) (st : Int) (A : Option Addr) (n c : Nat) (W : World) (hr : rightB h.cap = true) (hp : h.pr = true) (hn : 100 < n) :
    Calls Try.prog 6 #[h.val, .int .u64 st, .slice A n c] W fun e w' => e = .returned (.bool true) ∧ Below W.heap.size W w' := by
  unfold RH.val
  have HP := Aside.mk hp
  clear hp
  go_enter Try.func6, Try.ntmps6
  go_wp2_with fail
  have B1 := below_alloc_ W (.cells #[.int .i64 h.cap, .bool h.pr, .bool h.held, .int .u64 h.fr, .int .i64 h.n, .int .i64 h.gate, .int .i64 h.upto] 52)
  have z1 : (W.alloc (.cells #[.int .i64 h.cap, .bool h.pr, .bool h.held, .int .u64 h.fr, .int .i64 h.n, .int .i64 h.gate, .int .i64 h.upto] 52)).heap.size = W.heap.size + 1 := by simp
  generalize W.alloc (.cells #[.int .i64 h.cap, .bool h.pr, .bool h.held, .int .u64 h.fr, .int .i64 h.n, .int .i64 h.gate, .int .i64 h.upto] 52) = w1 at *
  have hM := Bx.new w1 #[.int .i64 h.cap, .bool h.pr, .bool false, .int .u64 0, .int .i64 0, .int .i64 0, .int .i64 0] 52
  have B2 := B1.trans ((below_alloc_ w1 (.cells #[.int .i64 h.cap, .bool h.pr, .bool false, .int .u64 0, .int .i64 0, .int .i64 0, .int .i64 0] 52)).mono B1.size)
  rw [z1] at hM
  have hp2 : P2 W (w1.alloc (.cells #[.int .i64 h.cap, .bool h.pr, .bool false, .int .u64 0, .int .i64 0, .int .i64 0, .int .i64 0] 52)) (W.heap.size + 1) h := ⟨B2, hM, by omega⟩
  generalize w1.alloc (.cells #[.int .i64 h.cap, .bool h.pr, .bool false, .int .u64 0, .int .i64 0, .int .i64 0, .int .i64 0] 52) = w2 at *
  generalize W.heap.size + 1 = g at *
  clear z1 B1 hM B2
  have hHD := keep2 (⟨rfl, rfl, rfl, Nat.le_refl _, fun _ _ => rfl⟩ : Below w2.heap.size w2 w2.drew) ⟨hp2.hm.get 0 rfl, hp2⟩
  go_region_held3 (fun w' => w'.cell? ⟨g, 0, none⟩ = some (.int .i64 h.cap) ∧ P2 W w' g h) (first | exact hHD | exact keep2 (by assumption) (by assumption))
    (first | (go_at_call 34; refine (of32B _ _).mono ?_; rintro e w3 ⟨rfl, b3⟩) | (go_at_call 33; refine (consumer32 _ _ _ hr).mono ?_; rintro e w4 ⟨rfl, sx, b4, zx⟩) | (go_at_call 22; refine (consumer64 _ _ _ hr).mono ?_; rintro e w5 ⟨rfl, sy, b5, zy⟩))
  have hq := of2 (by assumption : w5.cell? ⟨g, 0, none⟩ = some (.int .i64 h.cap) ∧ P2 W w5 g h)
  obtain ⟨k0, k1, k2, k3, k4, k5, k6⟩ := hq.hm.cells7
  rw [HP.out] at k1
  clear hHD sx sy b3 b4 b5 zx zy hp2
  go_wp2_with fail
  have hHD := keep2 (⟨rfl, rfl, rfl, Nat.le_refl _, fun _ _ => rfl⟩ : Below w5.heap.size w5 w5.drew) ⟨hq.hm.get 0 rfl, hq⟩
  clear k0 k1 k2 k3 k4 k5 k6
  go_region_held3 (fun w' => w'.cell? ⟨g, 0, none⟩ = some (.int .i64 h.cap) ∧ P2 W w' g h) (first | exact hHD | exact keep2 (by assumption) (by assumption)) ((first | (go_at_call 35; refine (producer32 _ _ hr).mono ?_; rintro e w6 ⟨rfl, sx, b6, zx⟩) | (go_at_call 36; refine (producer64 _ _ hr).mono ?_; rintro e w7 ⟨rfl, sy, b7, zy⟩)))
  have hq2 := of2 (by assumption : w7.cell? ⟨g, 0, none⟩ = some (.int .i64 h.cap) ∧ P2 W w7 g h)
  have hgl := hq.hm.lt
  have hpw : PW W w7 w5.heap.size w6.heap.size g (newP h.cap) (newP h.cap) ⟨h.cap, h.pr, false, 0, 0, 0, 0⟩ :=
    ⟨hq2.B, sx.old b7, sy, hq2.hm, by have e : w5.drew.heap.size = w5.heap.size := rfl; omega, by omega, by have e : w5.drew.heap.size = w5.heap.size := rfl; omega, hq.B.size, by have e : w5.drew.heap.size = w5.heap.size := rfl; have := hq.B.size; omega, hq2.lg⟩
  obtain ⟨k0, k1, k2, k3, k4, k5, k6⟩ := hpw.hm.cells7
  rw [HP.out] at k1
  have HPW := Aside.mk hpw
  have tlen : decide (100 < (n : Int)) = true := decide_eq_true (by omega)
  clear hpw
  go_wp2_with (first | (go_at_call 23; refine (refR _ _).mono ?_; rintro e w' ⟨rfl, rfl⟩) | (go_at_call 24; refine (live _).mono ?_; rintro e w8 ⟨rfl, b8⟩))
  go_ret
  exact ⟨rfl, HPW.out.B.trans (b8.mono HPW.out.B.size)⟩
set_option maxHeartbeats 4000000 in
theorem walkPlaysCN (h : RH) (st : Int) (A : Option Addr) (n c : Nat) (W : World) (hr : rightB h.cap = false) (hp : h.pr = false) :
    Calls Try.prog 6 #[h.val, .int .u64 st, .slice A n c] W fun e w' => e = .returned (.bool true) ∧ Below W.heap.size W w' := by
  unfold RH.val
  have HP := Aside.mk hp
  clear hp
  go_enter Try.func6, Try.ntmps6
  go_wp2_with fail
  have B1 := below_alloc_ W (.cells #[.int .i64 h.cap, .bool h.pr, .bool h.held, .int .u64 h.fr, .int .i64 h.n, .int .i64 h.gate, .int .i64 h.upto] 52)
  have z1 : (W.alloc (.cells #[.int .i64 h.cap, .bool h.pr, .bool h.held, .int .u64 h.fr, .int .i64 h.n, .int .i64 h.gate, .int .i64 h.upto] 52)).heap.size = W.heap.size + 1 := by simp
  generalize W.alloc (.cells #[.int .i64 h.cap, .bool h.pr, .bool h.held, .int .u64 h.fr, .int .i64 h.n, .int .i64 h.gate, .int .i64 h.upto] 52) = w1 at *
  have hM := Bx.new w1 #[.int .i64 h.cap, .bool h.pr, .bool false, .int .u64 0, .int .i64 0, .int .i64 0, .int .i64 0] 52
  have B2 := B1.trans ((below_alloc_ w1 (.cells #[.int .i64 h.cap, .bool h.pr, .bool false, .int .u64 0, .int .i64 0, .int .i64 0, .int .i64 0] 52)).mono B1.size)
  rw [z1] at hM
  have hp2 : P2 W (w1.alloc (.cells #[.int .i64 h.cap, .bool h.pr, .bool false, .int .u64 0, .int .i64 0, .int .i64 0, .int .i64 0] 52)) (W.heap.size + 1) h := ⟨B2, hM, by omega⟩
  generalize w1.alloc (.cells #[.int .i64 h.cap, .bool h.pr, .bool false, .int .u64 0, .int .i64 0, .int .i64 0, .int .i64 0] 52) = w2 at *
  generalize W.heap.size + 1 = g at *
  clear z1 B1 hM B2
  have hHD := keep2 (⟨rfl, rfl, rfl, Nat.le_refl _, fun _ _ => rfl⟩ : Below w2.heap.size w2 w2.drew) ⟨hp2.hm.get 0 rfl, hp2⟩
  go_region_held3 (fun w' => w'.cell? ⟨g, 0, none⟩ = some (.int .i64 h.cap) ∧ P2 W w' g h) (first | exact hHD | assumption | exact keep2 (by assumption) (by assumption))
    (first | (go_at_call 34; refine (of32B _ _).mono ?_; rintro e w3 ⟨rfl, b3⟩) | (go_at_call 33; refine (consumer32N _ _ _ hr).mono ?_; rintro e w4 ⟨rfl, rfl⟩) | (go_at_call 22; refine (consumer64N _ _ _ hr).mono ?_; rintro e w5 ⟨rfl, rfl⟩))
  have hq := of2 (by assumption : w3.cell? ⟨g, 0, none⟩ = some (.int .i64 h.cap) ∧ P2 W w3 g h)
  clear hHD hp2 b3
  have HQ := Aside.mk hq
  obtain ⟨k0, k1, k2, k3, k4, k5, k6⟩ := hq.hm.cells7
  rw [HP.out] at k1
  clear hq
  go_wp2_with (first | (go_at_call 23; refine (refR _ _).mono ?_; rintro e w' ⟨rfl, rfl⟩) | (go_at_call 24; refine (live _).mono ?_; rintro e w8 ⟨rfl, b8⟩))
  go_ret
  exact ⟨rfl, HQ.out.B.trans (b8.mono HQ.out.B.size)⟩
set_option maxHeartbeats 4000000 in
theorem walkPlaysPN (h : RH) (st : Int) (A : Option Addr) (n c : Nat) (W : World) (hr : rightB h.cap = false) (hp : h.pr = true) :
    Calls Try.prog 6 #[h.val, .int .u64 st, .slice A n c] W fun e w' => e = .returned (.bool true) ∧ Below W.heap.size W w' := by
  unfold RH.val
  have HP := Aside.mk hp
  clear hp
  go_enter Try.func6, Try.ntmps6
  go_wp2_with fail
  have B1 := below_alloc_ W (.cells #[.int .i64 h.cap, .bool h.pr, .bool h.held, .int .u64 h.fr, .int .i64 h.n, .int .i64 h.gate, .int .i64 h.upto] 52)
  have z1 : (W.alloc (.cells #[.int .i64 h.cap, .bool h.pr, .bool h.held, .int .u64 h.fr, .int .i64 h.n, .int .i64 h.gate, .int .i64 h.upto] 52)).heap.size = W.heap.size + 1 := by simp
  generalize W.alloc (.cells #[.int .i64 h.cap, .bool h.pr, .bool h.held, .int .u64 h.fr, .int .i64 h.n, .int .i64 h.gate, .int .i64 h.upto] 52) = w1 at *
  have hM := Bx.new w1 #[.int .i64 h.cap, .bool h.pr, .bool false, .int .u64 0, .int .i64 0, .int .i64 0, .int .i64 0] 52
  have B2 := B1.trans ((below_alloc_ w1 (.cells #[.int .i64 h.cap, .bool h.pr, .bool false, .int .u64 0, .int .i64 0, .int .i64 0, .int .i64 0] 52)).mono B1.size)
  rw [z1] at hM
  have hp2 : P2 W (w1.alloc (.cells #[.int .i64 h.cap, .bool h.pr, .bool false, .int .u64 0, .int .i64 0, .int .i64 0, .int .i64 0] 52)) (W.heap.size + 1) h := ⟨B2, hM, by omega⟩
  generalize w1.alloc (.cells #[.int .i64 h.cap, .bool h.pr, .bool false, .int .u64 0, .int .i64 0, .int .i64 0, .int .i64 0] 52) = w2 at *
  generalize W.heap.size + 1 = g at *
  clear z1 B1 hM B2
  have hHD := keep2 (⟨rfl, rfl, rfl, Nat.le_refl _, fun _ _ => rfl⟩ : Below w2.heap.size w2 w2.drew) ⟨hp2.hm.get 0 rfl, hp2⟩
  go_region_held3 (fun w' => w'.cell? ⟨g, 0, none⟩ = some (.int .i64 h.cap) ∧ P2 W w' g h) (first | exact hHD | assumption | exact keep2 (by assumption) (by assumption))
    (first | (go_at_call 34; refine (of32B _ _).mono ?_; rintro e w3 ⟨rfl, b3⟩) | (go_at_call 33; refine (consumer32N _ _ _ hr).mono ?_; rintro e w4 ⟨rfl, rfl⟩) | (go_at_call 22; refine (consumer64N _ _ _ hr).mono ?_; rintro e w5 ⟨rfl, rfl⟩))
  have hq := of2 (by assumption : w3.cell? ⟨g, 0, none⟩ = some (.int .i64 h.cap) ∧ P2 W w3 g h)
  obtain ⟨k0, k1, k2, k3, k4, k5, k6⟩ := hq.hm.cells7
  rw [HP.out] at k1
  clear hHD b3 hp2
  go_wp2_with fail
  have hHD := keep2 (⟨rfl, rfl, rfl, Nat.le_refl _, fun _ _ => rfl⟩ : Below w3.heap.size w3 w3.drew) ⟨hq.hm.get 0 rfl, hq⟩
  clear k0 k1 k2 k3 k4 k5 k6
  go_region_held3 (fun w' => w'.cell? ⟨g, 0, none⟩ = some (.int .i64 h.cap) ∧ P2 W w' g h) (first | exact hHD | assumption | exact keep2 (by assumption) (by assumption)) ((first | (go_at_call 35; refine (producer32N _ _ hr).mono ?_; rintro e w6 ⟨rfl, rfl⟩) | (go_at_call 36; refine (producer64N _ _ hr).mono ?_; rintro e w7 ⟨rfl, rfl⟩)))
  rename_i hH
  replace hq := of2 hH
  clear hH hHD
  have HQ := Aside.mk hq
  obtain ⟨k0, k1, k2, k3, k4, k5, k6⟩ := hq.hm.cells7
  rw [HP.out] at k1
  clear hq
  go_wp2_with (first | (go_at_call 23; refine (refR _ _).mono ?_; rintro e w' ⟨rfl, rfl⟩) | (go_at_call 24; refine (live _).mono ?_; rintro e w8 ⟨rfl, b8⟩))
  go_ret
  exact ⟨rfl, HQ.out.B.trans (b8.mono HQ.out.B.size)⟩
end Go.Proofs.Ytkakgmpcenfjlaa.Handle
