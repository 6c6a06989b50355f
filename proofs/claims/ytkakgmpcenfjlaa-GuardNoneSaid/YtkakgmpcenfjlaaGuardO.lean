/- GuardNone, walked. -/
import Derived.Test.YtkakgmpcenfjlaaGuardN
import Derived.Test.YtkakgmpcenfjlaaGuardF
import Derived.Deep.RegionHeld3
set_option linter.unusedVariables false
set_option linter.unusedSimpArgs false
set_option maxRecDepth 100000
namespace Go.Proofs.Ytkakgmpcenfjlaa.Handle
open Go.RowKit Go.Proofs.YtkakgmpcenfjlaaW.PrintWords
/-- What GuardNone's boxes hold. -/
structure NB (w0 w : World) (z y : Nat) (d : DoS) : Prop where
  c0 : w.cell? ⟨z, 0, none⟩ = some (.int .i64 d.kind)
  c1 : w.cell? ⟨z, 1, none⟩ = some (.int .i64 d.n)
  c2 : w.cell? ⟨z, 2, none⟩ = some (.int .u64 d.at_)
  c3 : w.cell? ⟨z, 3, none⟩ = some (.int .i64 d.op)
  c4 : w.cell? ⟨z, 4, none⟩ = some (.int .i64 d.cn)
  c5 : w.cell? ⟨z, 5, none⟩ = some (.slice d.A d.l d.C)
  s0 : w.cell? ⟨y, 0, none⟩ = some (.int .u32 0)
  s1 : w.cell? ⟨y, 1, none⟩ = some (.int .i64 0)
  lz : z < w.heap.size
  ly : y < w.heap.size
  B : Below w0.heap.size w0 w
theorem NB.step {w0 w w' : World} {z y : Nat} {d : DoS} (h : NB w0 w z y d) (b : Below w.heap.size w w') : NB w0 w' z y d :=
  ⟨(b.cell h.lz).trans h.c0, (b.cell h.lz).trans h.c1, (b.cell h.lz).trans h.c2, (b.cell h.lz).trans h.c3, (b.cell h.lz).trans h.c4, (b.cell h.lz).trans h.c5,
   (b.cell h.ly).trans h.s0, (b.cell h.ly).trans h.s1, Nat.lt_of_lt_of_le h.lz b.size, Nat.lt_of_lt_of_le h.ly b.size, h.B.trans (b.mono h.B.size)⟩
theorem NB.drew {w0 w : World} {z y : Nat} {d : DoS} (h : NB w0 w z y d) : NB w0 w.drew z y d := h.step ⟨rfl, rfl, rfl, Nat.le_refl _, fun _ _ => rfl⟩
theorem heldN {w0 w w' : World} {z y : Nat} {d : DoS} (b : Below w.heap.size w w') (h : w.cell? ⟨z, 3, none⟩ = some (.int .i64 d.op) ∧ w.cell? ⟨z, 4, none⟩ = some (.int .i64 d.cn) ∧ w.cell? ⟨z, 5, none⟩ = some (.slice d.A d.l d.C) ∧ NB w0 w z y d) :
    w'.cell? ⟨z, 3, none⟩ = some (.int .i64 d.op) ∧ w'.cell? ⟨z, 4, none⟩ = some (.int .i64 d.cn) ∧ w'.cell? ⟨z, 5, none⟩ = some (.slice d.A d.l d.C) ∧ NB w0 w' z y d :=
  ⟨(h.2.2.2.step b).c3, (h.2.2.2.step b).c4, (h.2.2.2.step b).c5, h.2.2.2.step b⟩
theorem heldY {w0 w w' : World} {z y : Nat} {d : DoS} {k : IntKind} {t : TypeId} {g : Nat} {st : HS} (b : Below w.heap.size w w') (h : w.cell? ⟨z, 3, none⟩ = some (.int .i64 d.op) ∧ w.cell? ⟨z, 4, none⟩ = some (.int .i64 d.cn) ∧ w.cell? ⟨z, 5, none⟩ = some (.slice d.A d.l d.C) ∧ NB w0 w z y d ∧ Stands k t w g st) :
    w'.cell? ⟨z, 3, none⟩ = some (.int .i64 d.op) ∧ w'.cell? ⟨z, 4, none⟩ = some (.int .i64 d.cn) ∧ w'.cell? ⟨z, 5, none⟩ = some (.slice d.A d.l d.C) ∧ NB w0 w' z y d ∧ Stands k t  w' g st :=
  ⟨(h.2.2.2.1.step b).c3, (h.2.2.2.1.step b).c4, (h.2.2.2.1.step b).c5, h.2.2.2.1.step b, h.2.2.2.2.old b⟩
theorem belowN {w0 w : World} {z y : Nat} {d : DoS} (h : w.cell? ⟨z, 3, none⟩ = some (.int .i64 d.op) ∧ w.cell? ⟨z, 4, none⟩ = some (.int .i64 d.cn) ∧ w.cell? ⟨z, 5, none⟩ = some (.slice d.A d.l d.C) ∧ NB w0 w z y d) : Below w0.heap.size w0 w := h.2.2.2.B
theorem belowY {w0 w : World} {z y : Nat} {d : DoS} {k : IntKind} {t : TypeId} {g : Nat} {st : HS} (h : w.cell? ⟨z, 3, none⟩ = some (.int .i64 d.op) ∧ w.cell? ⟨z, 4, none⟩ = some (.int .i64 d.cn) ∧ w.cell? ⟨z, 5, none⟩ = some (.slice d.A d.l d.C) ∧ NB w0 w z y d ∧ Stands k t w g st) : Below w0.heap.size w0 w := h.2.2.2.1.B
theorem stOf {w0 w : World} {z y : Nat} {d : DoS} {k : IntKind} {t : TypeId} {g : Nat} {st : HS} (h : w.cell? ⟨z, 3, none⟩ = some (.int .i64 d.op) ∧ w.cell? ⟨z, 4, none⟩ = some (.int .i64 d.cn) ∧ w.cell? ⟨z, 5, none⟩ = some (.slice d.A d.l d.C) ∧ NB w0 w z y d ∧ Stands k t w g st) : Stands k t w g st := h.2.2.2.2
set_option maxHeartbeats 2000000 in
theorem walkNoneL (d : DoS) (cap : Int) (pr : Bool) (w : World) (hl : 100 < d.l) :
    Calls Try.prog 7 #[d.val, .int .i64 cap, .bool pr] w fun e w' => e = .returned (.bool true) ∧ Below w.heap.size w w' := by
  unfold DoS.val
  have t1 : decide (100 < (d.l : Int)) = true := decide_eq_true (by omega)
  go_enter Try.func7, Try.ntmps7
  go_wp2_with fail
  go_at_call 24
  refine (live _).mono ?_
  rintro e w3 ⟨rfl, b3⟩
  have hB := (below_alloc_ w _).trans (b3.mono (below_alloc_ w _).size)
  clear b3
  go_wp2
  go_ret
  exact ⟨rfl, hB⟩
set_option maxHeartbeats 2000000 in
theorem walkNone (d : DoS) (cap : Int) (pr : Bool) (w : World) (hl : ¬ 100 < d.l) :
    Calls Try.prog 7 #[d.val, .int .i64 cap, .bool pr] w fun e w' => e = .returned (.bool true) ∧ Below w.heap.size w w' := by
  unfold DoS.val
  have t1 : decide (100 < (d.l : Int)) = false := decide_eq_false (by omega)
  have hu := Try.underlying69
  have hu2 := Try.underlying42
  have hu3 := Try.underlying44
  go_enter Try.func7, Try.ntmps7
  go_wp2_with fail
  have hD : DoAt (w.alloc (.cells #[.int .i64 d.kind, .int .i64 d.n, .int .u64 d.at_, .int .i64 d.op, .int .i64 d.cn, .slice d.A d.l d.C] 44)) w.heap.size 0 0 d :=
    ⟨fresh_cell w _ _ _ _ rfl, fresh_cell w _ _ _ _ rfl, fresh_cell w _ _ _ _ rfl, fresh_cell w _ _ _ _ rfl, fresh_cell w _ _ _ _ rfl, fresh_cell w _ _ _ _ rfl⟩
  have hB := below_alloc_ w (.cells #[.int .i64 d.kind, .int .i64 d.n, .int .u64 d.at_, .int .i64 d.op, .int .i64 d.cn, .slice d.A d.l d.C] 44)
  have hz : w.heap.size < (w.alloc (.cells #[.int .i64 d.kind, .int .i64 d.n, .int .u64 d.at_, .int .i64 d.op, .int .i64 d.cn, .slice d.A d.l d.C] 44)).heap.size := by simp
  generalize (w.alloc (.cells #[.int .i64 d.kind, .int .i64 d.n, .int .u64 d.at_, .int .i64 d.op, .int .i64 d.cn, .slice d.A d.l d.C] 44)) = w0 at *
  obtain ⟨z, hzz⟩ : ∃ z, Aside (w.heap.size = z) := ⟨_, ⟨rfl⟩⟩
  rw [hzz.out] at hD hB hz ⊢
  go_at_call 44
  refine (span32_nil _).mono ?_
  rintro e w1 ⟨rfl, b1⟩
  replace hD := hD.old b1 hz
  replace hB := hB.trans (b1.mono (Nat.le_of_lt hz))
  replace hz := Nat.lt_of_lt_of_le hz b1.size
  clear b1
  obtain ⟨hc0, hc1, hc2, hc3, hc4, hc5⟩ := hD
  simp only [Nat.zero_mul, Nat.zero_add] at hc0 hc1 hc2 hc3 hc4 hc5
  go_wp2_with fail
  have hN := Aside.mk (show NB w (w1.alloc (.cells #[.int .u32 0, .int .i64 0] 69)) z w1.heap.size d from
    ⟨(alloc_cell w1 _ ⟨z, 0, none⟩ hz).trans hc0, (alloc_cell w1 _ ⟨z, 1, none⟩ hz).trans hc1, (alloc_cell w1 _ ⟨z, 2, none⟩ hz).trans hc2, (alloc_cell w1 _ ⟨z, 3, none⟩ hz).trans hc3, (alloc_cell w1 _ ⟨z, 4, none⟩ hz).trans hc4, (alloc_cell w1 _ ⟨z, 5, none⟩ hz).trans hc5,
     fresh_cell w1 _ _ _ _ rfl, fresh_cell w1 _ _ _ _ rfl, by simp; omega, by simp, by rw [hzz.out]; exact hB.trans ((below_alloc_ w1 _).mono (Nat.le_of_lt hz))⟩)
  clear hc0 hc1 hc2 hc3 hc4 hc5 hB hz
  generalize (w1.alloc (.cells #[.int .u32 0, .int .i64 0] 69)) = w2 at *
  generalize w1.heap.size = y at *
  go_at_call 39
  refine (mayN32 _ _ _ _ _ _).mono ?_
  rintro e w3 ⟨rfl, b⟩
  replace hN := Aside.mk (hN.out.step b)
  clear b
  obtain ⟨hc0, hc1, hc2, hc3, hc4, hc5, hs0, hs1, _, _, _⟩ := hN.out
  go_wp2_with fail
  go_at_call 40
  refine (mayN64 _ _ _ _ _ _).mono ?_
  rintro e w4 ⟨rfl, b⟩
  replace hN := Aside.mk (hN.out.step b)
  clear hc0 hc1 hc2 hc3 hc4 hc5 hs0 hs1 b
  obtain ⟨hc0, hc1, hc2, hc3, hc4, hc5, hs0, hs1, _, _, _⟩ := hN.out
  go_wp2_with fail
  go_at_call 42
  refine (smallN d _).mono ?_
  rintro e w5 ⟨rfl, b⟩
  replace hN := Aside.mk (hN.out.step b)
  clear hc0 hc1 hc2 hc3 hc4 hc5 hs0 hs1 b
  obtain ⟨hc0, hc1, hc2, hc3, hc4, hc5, hs0, hs1, _, _, _⟩ := hN.out
  go_wp2_with fail
  go_at_call 27
  refine (greatN d _).mono ?_
  rintro e w6 ⟨rfl, b⟩
  replace hN := Aside.mk (hN.out.step b)
  clear hc0 hc1 hc2 hc3 hc4 hc5 hs0 hs1 b
  obtain ⟨hc0, hc1, hc2, hc3, hc4, hc5, hs0, hs1, _, _, _⟩ := hN.out
  go_wp2_with fail
  go_at_call 45
  refine (gateN32 _).mono ?_
  rintro e w7 ⟨rfl, rfl⟩
  replace hN := Aside.mk (hN.out.step (Below.refl _ _))
  clear hc0 hc1 hc2 hc3 hc4 hc5 hs0 hs1
  obtain ⟨hc0, hc1, hc2, hc3, hc4, hc5, hs0, hs1, _, _, _⟩ := hN.out
  go_wp2_with fail
  go_at_call 26
  refine (upto64_nil _).mono ?_
  rintro e w8 ⟨rfl, m8, rfl⟩
  replace hN := Aside.mk (hN.out.step (below_drewN_ _ m8))
  clear hc0 hc1 hc2 hc3 hc4 hc5 hs0 hs1
  obtain ⟨hc0, hc1, hc2, hc3, hc4, hc5, hs0, hs1, _, _, _⟩ := hN.out
  go_wp2_with fail
  go_at_call 46
  refine (ready32_nil _).mono ?_
  rintro e w9 ⟨rfl, m9, rfl⟩
  replace hN := Aside.mk (hN.out.step (below_drewN_ _ m9))
  clear hc0 hc1 hc2 hc3 hc4 hc5 hs0 hs1
  generalize w7.drewN m8 = w8 at *
  generalize w8.drewN m9 = w9 at *
  obtain ⟨hc0, hc1, hc2, hc3, hc4, hc5, hs0, hs1, _, _, _⟩ := hN.out
  go_wp2_with fail
  clear hc0 hc1 hc2 hc3 hc4 hc5 hs0 hs1
  cases hr : rightB cap with
  | false =>
    go_at_call 22
    refine (consumer64N cap 5 _ hr).mono ?_
    rintro e w10 ⟨rfl, rfl⟩
    cases pr with
    | false =>
      obtain ⟨hc0, hc1, hc2, hc3, hc4, hc5, hs0, hs1, _, _, _⟩ := hN.out
      have hNN := hN.out
      have hHD := heldN (Below.refl _ _).drew ⟨hc3, hc4, hc5, hNN⟩
      go_wp2_with fail
      go_region_held3 (fun w' => w'.cell? ⟨z, 3, none⟩ = some (.int .i64 d.op) ∧ w'.cell? ⟨z, 4, none⟩ = some (.int .i64 d.cn) ∧ w'.cell? ⟨z, 5, none⟩ = some (.slice d.A d.l d.C) ∧ NB w w' z y d) (first | exact hHD | exact heldN (by assumption) (by assumption))
        (first | (go_at_call 40; refine (mayN64 _ _ _ _ _ _).mono ?_; rintro e w' ⟨rfl, b⟩) | (go_at_call 24; refine (live _).mono ?_; rintro e w' ⟨rfl, b⟩))
      go_wp2
      go_ret
      exact ⟨rfl, by first | exact belowN (by assumption) | exact belowY (by assumption) | exact belowN (heldN (by assumption) (by assumption)) | exact belowY (heldY (by assumption) (by assumption)) | (rw [← hzz.out]; first | exact belowN (by assumption) | exact belowY (by assumption) | exact belowN (heldN (by assumption) (by assumption)) | exact belowY (heldY (by assumption) (by assumption)))⟩
    | true =>
      obtain ⟨hc0, hc1, hc2, hc3, hc4, hc5, hs0, hs1, _, _, _⟩ := hN.out
      go_wp2_with fail
      go_at_call 36
      refine (producer64N cap _ hr).mono ?_
      rintro e w11 ⟨rfl, rfl⟩
      clear hc0 hc1 hc2 hc3 hc4 hc5 hs0 hs1
      obtain ⟨hc0, hc1, hc2, hc3, hc4, hc5, hs0, hs1, _, _, _⟩ := hN.out
      have hNN := hN.out
      have hHD := heldN (Below.refl _ _).drew ⟨hc3, hc4, hc5, hNN⟩
      go_wp2_with fail
      go_region_held3 (fun w' => w'.cell? ⟨z, 3, none⟩ = some (.int .i64 d.op) ∧ w'.cell? ⟨z, 4, none⟩ = some (.int .i64 d.cn) ∧ w'.cell? ⟨z, 5, none⟩ = some (.slice d.A d.l d.C) ∧ NB w w' z y d) (first | exact hHD | exact heldN (by assumption) (by assumption))
        (first | (go_at_call 40; refine (mayN64 _ _ _ _ _ _).mono ?_; rintro e w' ⟨rfl, b⟩) | (go_at_call 24; refine (live _).mono ?_; rintro e w' ⟨rfl, b⟩))
      go_wp2
      go_ret
      exact ⟨rfl, by first | exact belowN (by assumption) | exact belowY (by assumption) | exact belowN (heldN (by assumption) (by assumption)) | exact belowY (heldY (by assumption) (by assumption)) | (rw [← hzz.out]; first | exact belowN (by assumption) | exact belowY (by assumption) | exact belowN (heldN (by assumption) (by assumption)) | exact belowY (heldY (by assumption) (by assumption)))⟩
  | true =>
    go_at_call 22
    refine (consumer64 cap 5 _ hr).mono ?_
    rintro e w10 ⟨rfl, s1, b, zz⟩
    replace hN := Aside.mk (hN.out.step b)
    have hS := Aside.mk s1
    clear b s1 zz
    generalize w9.heap.size = g at *
    cases pr with
    | false =>
      obtain ⟨hc0, hc1, hc2, hc3, hc4, hc5, hs0, hs1, _, _, _⟩ := hN.out
      have hNN := hN.out
      have hSS := hS.out
      have hHD := heldY (Below.refl _ _).drew ⟨hc3, hc4, hc5, hNN, hSS⟩
      go_wp2_with fail
      go_region_held3 (fun w' => w'.cell? ⟨z, 3, none⟩ = some (.int .i64 d.op) ∧ w'.cell? ⟨z, 4, none⟩ = some (.int .i64 d.cn) ∧ w'.cell? ⟨z, 5, none⟩ = some (.slice d.A d.l d.C) ∧ NB w w' z y d ∧ Stands .u64 82 w' g (newC cap 5)) (first | exact hHD | exact heldY (by assumption) (by assumption))
        (first | (go_at_call 40; refine (may64 g (newC cap 5) d.op d.cn d.A d.l d.C _ (stOf (by assumption))).mono ?_; rintro e w' ⟨rfl, b⟩) | (go_at_call 24; refine (live _).mono ?_; rintro e w' ⟨rfl, b⟩))
      go_wp2
      go_ret
      exact ⟨rfl, by first | exact belowN (by assumption) | exact belowY (by assumption) | exact belowN (heldN (by assumption) (by assumption)) | exact belowY (heldY (by assumption) (by assumption)) | (rw [← hzz.out]; first | exact belowN (by assumption) | exact belowY (by assumption) | exact belowN (heldN (by assumption) (by assumption)) | exact belowY (heldY (by assumption) (by assumption)))⟩
    | true =>
      obtain ⟨hc0, hc1, hc2, hc3, hc4, hc5, hs0, hs1, _, _, _⟩ := hN.out
      go_wp2_with fail
      go_at_call 36
      refine (producer64 cap _ hr).mono ?_
      rintro e w11 ⟨rfl, s2, b, zz⟩
      replace hN := Aside.mk (hN.out.step b)
      replace hS := Aside.mk s2
      clear b s2 zz
      clear hc0 hc1 hc2 hc3 hc4 hc5 hs0 hs1
      generalize w10.heap.size = g2 at *
      obtain ⟨hc0, hc1, hc2, hc3, hc4, hc5, hs0, hs1, _, _, _⟩ := hN.out
      have hNN := hN.out
      have hSS := hS.out
      have hHD := heldY (Below.refl _ _).drew ⟨hc3, hc4, hc5, hNN, hSS⟩
      go_wp2_with fail
      go_region_held3 (fun w' => w'.cell? ⟨z, 3, none⟩ = some (.int .i64 d.op) ∧ w'.cell? ⟨z, 4, none⟩ = some (.int .i64 d.cn) ∧ w'.cell? ⟨z, 5, none⟩ = some (.slice d.A d.l d.C) ∧ NB w w' z y d ∧ Stands .u64 82 w' g2 (newP cap)) (first | exact hHD | exact heldY (by assumption) (by assumption))
        (first | (go_at_call 40; refine (may64 g2 (newP cap) d.op d.cn d.A d.l d.C _ (stOf (by assumption))).mono ?_; rintro e w' ⟨rfl, b⟩) | (go_at_call 24; refine (live _).mono ?_; rintro e w' ⟨rfl, b⟩))
      go_wp2
      go_ret
      exact ⟨rfl, by first | exact belowN (by assumption) | exact belowY (by assumption) | exact belowN (heldN (by assumption) (by assumption)) | exact belowY (heldY (by assumption) (by assumption)) | (rw [← hzz.out]; first | exact belowN (by assumption) | exact belowY (by assumption) | exact belowN (heldN (by assumption) (by assumption)) | exact belowY (heldY (by assumption) (by assumption)))⟩
end Go.Proofs.Ytkakgmpcenfjlaa.Handle
