/- sakialaw10.live: the document's example of configurations. -/
import Derived.Test.YtkakgmpcenfjlaaConfCheck
set_option linter.unusedVariables false
set_option linter.unusedSimpArgs false
set_option maxRecDepth 100000
namespace Go.Proofs.Ytkakgmpcenfjlaa.QCf
open Go.RowKit Go.Proofs.YtkakgmpcenfjlaaW.PrintWords Go.Proofs.YtkakgmpcenfjlaaW.PrintMore Go.Proofs.Ytkakgmpcenfjlaa.Graph Go.Proofs.Ytkakgmpcenfjlaa.QGc
theorem plainT (W : World) : Calls Try.prog 53 #[] W fun e w' => ∃ A C, e = .returned (.agg #[.int .i64 2, .int .i64 32, .int .i64 4, .int .i64 1, .int .u64 4294967294, .slice A 1 C]) ∧ Kd.C (Kd.slice 40 (Kd.int .i64)) w' A 1 [[]] ∧ 1 ≤ C ∧ Below W.heap.size W w' := by
  refine (sakialaw10_Plain.calls 2 32 4 1 4294967294 [[]] W rfl).mono ?_
  rintro e w' ⟨v, rfl, hS, hb⟩
  have hV := Kd.S_V (base' := 0) hS
  obtain ⟨A, C, rfl⟩ := Kd.V_slice hV
  obtain ⟨h1, h2, h3⟩ := Kd.V_reads' hV
  exact ⟨A, C, rfl, h3, h2, hb⟩
theorem sm1 : Sm [[]] := ⟨by decide, by decide⟩
structure LB (W0 w : World) (g : Nat) (A1 A2 : Option Addr) (C1 C2 : Nat) : Prop where
  B : Below W0.heap.size W0 w
  x1 : w.heap[g]? = some (.cells #[.int .i64 1, .int .i64 32, .int .i64 4, .int .i64 2, .int .u64 4294967294, .slice A1 1 C1] 25 (0, 0))
  x2 : w.heap[g + 1]? = some (.cells #[.int .i64 2, .int .i64 32, .int .i64 536870912, .int .i64 2, .int .u64 4294967294, .slice A2 1 C2] 25 (0, 0))
  x3 : w.heap[g + 1 + 1]? = some (.cells #[.int .i64 2, .int .i64 64, .int .i64 536870912, .int .i64 2, .int .u64 4294967294, .slice A2 1 C2] 25 (0, 0))
  k1 : Kd.C (Kd.slice 40 (Kd.int .i64)) w A1 1 [[]]
  k2 : Kd.C (Kd.slice 40 (Kd.int .i64)) w A2 1 [[]]
theorem LB.step {W0 w w' : World} {g : Nat} {A1 A2 : Option Addr} {C1 C2 : Nat} (h : LB W0 w g A1 A2 C1 C2) (b : Below w.heap.size w w') : LB W0 w' g A1 A2 C1 C2 :=
  ⟨h.B.trans (b.mono h.B.size), (b.block _ (Array.getElem?_eq_some_iff.1 h.x1).1).trans h.x1, (b.block _ (Array.getElem?_eq_some_iff.1 h.x2).1).trans h.x2, (b.block _ (Array.getElem?_eq_some_iff.1 h.x3).1).trans h.x3, Kd.C_below h.k1 b, Kd.C_below h.k2 b⟩
theorem LB.x1_ {W0 w : World} {g : Nat} {A1 A2 : Option Addr} {C1 C2 : Nat} (h : LB W0 w g A1 A2 C1 C2) : w.cell? ⟨g, 0, none⟩ = some (.int .i64 1) ∧ w.cell? ⟨g, 1, none⟩ = some (.int .i64 32) ∧ w.cell? ⟨g, 2, none⟩ = some (.int .i64 4) ∧ w.cell? ⟨g, 3, none⟩ = some (.int .i64 2) ∧ w.cell? ⟨g, 4, none⟩ = some (.int .u64 4294967294) ∧ w.cell? ⟨g, 5, none⟩ = some (.slice A1 1 C1) := by
  have e := h.x1
  refine ⟨?_, ?_, ?_, ?_, ?_, ?_⟩ <;> simp [World.cell?, e]
theorem LB.x2_ {W0 w : World} {g : Nat} {A1 A2 : Option Addr} {C1 C2 : Nat} (h : LB W0 w g A1 A2 C1 C2) : w.cell? ⟨g + 1, 0, none⟩ = some (.int .i64 2) ∧ w.cell? ⟨g + 1, 1, none⟩ = some (.int .i64 32) ∧ w.cell? ⟨g + 1, 2, none⟩ = some (.int .i64 536870912) ∧ w.cell? ⟨g + 1, 3, none⟩ = some (.int .i64 2) ∧ w.cell? ⟨g + 1, 4, none⟩ = some (.int .u64 4294967294) ∧ w.cell? ⟨g + 1, 5, none⟩ = some (.slice A2 1 C2) := by
  have e := h.x2
  refine ⟨?_, ?_, ?_, ?_, ?_, ?_⟩ <;> simp [World.cell?, e]
theorem LB.x3_ {W0 w : World} {g : Nat} {A1 A2 : Option Addr} {C1 C2 : Nat} (h : LB W0 w g A1 A2 C1 C2) : w.cell? ⟨g + 1 + 1, 0, none⟩ = some (.int .i64 2) ∧ w.cell? ⟨g + 1 + 1, 1, none⟩ = some (.int .i64 64) ∧ w.cell? ⟨g + 1 + 1, 2, none⟩ = some (.int .i64 536870912) ∧ w.cell? ⟨g + 1 + 1, 3, none⟩ = some (.int .i64 2) ∧ w.cell? ⟨g + 1 + 1, 4, none⟩ = some (.int .u64 4294967294) ∧ w.cell? ⟨g + 1 + 1, 5, none⟩ = some (.slice A2 1 C2) := by
  have e := h.x3
  refine ⟨?_, ?_, ?_, ?_, ?_, ?_⟩ <;> simp [World.cell?, e]
theorem ck0 (A : Option Addr) (C : Nat) (W : World) (hr : Kd.C (Kd.slice 40 (Kd.int .i64)) W A 1 [[]]) (hC : 1 ≤ C) :
    Calls Try.prog 50 #[.agg #[.int .i64 2, .int .i64 32, .int .i64 4, .int .i64 1, .int .u64 4294967294, .slice A 1 C]] W fun e w' => e = .returned (.int .i64 0) ∧ Below W.heap.size W w' := by
  have h := confCheck 2 32 4 1 4294967294 A C [[]] W sm1 hr hC
  have e : checkC 2 32 4 1 [[]] = 0 := by decide +kernel
  rw [e] at h
  exact h
theorem ck1 (A : Option Addr) (C : Nat) (W : World) (hr : Kd.C (Kd.slice 40 (Kd.int .i64)) W A 1 [[]]) (hC : 1 ≤ C) :
    Calls Try.prog 50 #[.agg #[.int .i64 1, .int .i64 32, .int .i64 4, .int .i64 2, .int .u64 4294967294, .slice A 1 C]] W fun e w' => e = .returned (.int .i64 5) ∧ Below W.heap.size W w' := by
  have h := confCheck 1 32 4 2 4294967294 A C [[]] W sm1 hr hC
  have e : checkC 1 32 4 2 [[]] = 5 := by decide +kernel
  rw [e] at h
  exact h
theorem ck2 (A : Option Addr) (C : Nat) (W : World) (hr : Kd.C (Kd.slice 40 (Kd.int .i64)) W A 1 [[]]) (hC : 1 ≤ C) :
    Calls Try.prog 50 #[.agg #[.int .i64 2, .int .i64 32, .int .i64 536870912, .int .i64 2, .int .u64 4294967294, .slice A 1 C]] W fun e w' => e = .returned (.int .i64 9) ∧ Below W.heap.size W w' := by
  have h := confCheck 2 32 536870912 2 4294967294 A C [[]] W sm1 hr hC
  have e : checkC 2 32 536870912 2 [[]] = 9 := by decide +kernel
  rw [e] at h
  exact h
theorem ck3 (A : Option Addr) (C : Nat) (W : World) (hr : Kd.C (Kd.slice 40 (Kd.int .i64)) W A 1 [[]]) (hC : 1 ≤ C) :
    Calls Try.prog 50 #[.agg #[.int .i64 2, .int .i64 64, .int .i64 536870912, .int .i64 2, .int .u64 4294967294, .slice A 1 C]] W fun e w' => e = .returned (.int .i64 10) ∧ Below W.heap.size W w' := by
  have h := confCheck 2 64 536870912 2 4294967294 A C [[]] W sm1 hr hC
  have e : checkC 2 64 536870912 2 [[]] = 10 := by decide +kernel
  rw [e] at h
  exact h
theorem liveT (W : World) : Calls Try.prog 12 #[] W fun e w' => e = .returned (.bool true) ∧ Below W.heap.size W w' := by
  go_enter Try.func12, Try.ntmps12
  go_wp2_with fail
  refine (plainT _).mono ?_
  rintro e w1 ⟨A1, C1, rfl, k1, l1, b1⟩
  have K1 := Aside0.mk k1
  have B1 := Aside0.mk b1
  clear k1 b1
  go_wp2_with fail
  refine (plainT _).mono ?_
  rintro e w2 ⟨A2, C2, rfl, k2, l2, b2⟩
  have K2 := Aside0.mk k2
  have K1' := Aside0.mk (Kd.C_below K1.out b2)
  have B2 := Aside0.mk (B1.out.trans (b2.mono B1.out.size))
  clear k2 b2 K1 B1
  go_wp2_with fail
  have hL : LB W (((w2.alloc (.cells #[.int .i64 1, .int .i64 32, .int .i64 4, .int .i64 2, .int .u64 4294967294, .slice A1 1 C1] 25)).alloc (.cells #[.int .i64 2, .int .i64 32, .int .i64 536870912, .int .i64 2, .int .u64 4294967294, .slice A2 1 C2] 25)).alloc (.cells #[.int .i64 2, .int .i64 64, .int .i64 536870912, .int .i64 2, .int .u64 4294967294, .slice A2 1 C2] 25)) w2.heap.size A1 A2 C1 C2 := by
    have h3 := three w2 (.cells #[.int .i64 1, .int .i64 32, .int .i64 4, .int .i64 2, .int .u64 4294967294, .slice A1 1 C1] 25) (.cells #[.int .i64 2, .int .i64 32, .int .i64 536870912, .int .i64 2, .int .u64 4294967294, .slice A2 1 C2] 25) (.cells #[.int .i64 2, .int .i64 64, .int .i64 536870912, .int .i64 2, .int .u64 4294967294, .slice A2 1 C2] 25)
    exact ⟨B2.out.trans ((below_three _ _ _ _).mono B2.out.size), h3.1, h3.2.1, h3.2.2, Kd.C_alloc (Kd.C_alloc (Kd.C_alloc K1'.out _) _) _, Kd.C_alloc (Kd.C_alloc (Kd.C_alloc K2.out _) _) _⟩
  generalize (((w2.alloc (.cells #[.int .i64 1, .int .i64 32, .int .i64 4, .int .i64 2, .int .u64 4294967294, .slice A1 1 C1] 25)).alloc (.cells #[.int .i64 2, .int .i64 32, .int .i64 536870912, .int .i64 2, .int .u64 4294967294, .slice A2 1 C2] 25)).alloc (.cells #[.int .i64 2, .int .i64 64, .int .i64 536870912, .int .i64 2, .int .u64 4294967294, .slice A2 1 C2] 25)) = w3 at *
  generalize w2.heap.size = g at *
  clear B2 K1' K2
  have HL := Aside0.mk hL
  clear hL
  refine (plainT _).mono ?_
  rintro e w4 ⟨A3, C3, rfl, k3, l3, b3⟩
  have HL4 := Aside0.mk (HL.out.step b3)
  clear HL b3
  have K3 := Aside0.mk (ck0 A3 C3 w4 k3 l3)
  clear k3
  obtain ⟨a0, a1, a2, a3, a4, a5⟩ := HL4.out.x1_
  go_wp2_with fail
  refine K3.out.mono ?_
  rintro e w5 ⟨rfl, b5⟩
  have HL5 := Aside0.mk (HL4.out.step b5)
  have K4 := Aside0.mk (ck1 A1 C1 w5 HL5.out.k1 l1)
  clear b5 HL4 a0 a1 a2 a3 a4 a5 K3
  obtain ⟨a0, a1, a2, a3, a4, a5⟩ := HL5.out.x1_
  go_wp2_with fail
  refine K4.out.mono ?_
  rintro e w6 ⟨rfl, b6⟩
  have HL6 := Aside0.mk (HL5.out.step b6)
  have K5 := Aside0.mk (ck2 A2 C2 w6 HL6.out.k2 l2)
  clear b6 HL5 a0 a1 a2 a3 a4 a5 K4
  obtain ⟨a0, a1, a2, a3, a4, a5⟩ := HL6.out.x2_
  go_wp2_with fail
  refine K5.out.mono ?_
  rintro e w7 ⟨rfl, b7⟩
  have HL7 := Aside0.mk (HL6.out.step b7)
  have K6 := Aside0.mk (ck3 A2 C2 w7 HL7.out.k2 l2)
  clear b7 HL6 a0 a1 a2 a3 a4 a5 K5
  obtain ⟨a0, a1, a2, a3, a4, a5⟩ := HL7.out.x3_
  go_wp2_with fail
  refine K6.out.mono ?_
  rintro e w8 ⟨rfl, b8⟩
  have HL8 := Aside0.mk (HL7.out.step b8)
  clear b8 HL7 a0 a1 a2 a3 a4 a5 K6
  go_wp2
  go_ret
  exact ⟨rfl, HL8.out.B⟩
def sakialaw10_live.f : Option Bool := some true
theorem sakialaw10_live.calls (r : Bool) (w : World) (h : sakialaw10_live.f = some r) : Calls Try.prog 12 #[] w fun e w' => e = .returned (.bool r) ∧ Below w.heap.size w w' := by
  obtain rfl := Option.some.inj h
  exact liveT w
end Go.Proofs.Ytkakgmpcenfjlaa.QCf
