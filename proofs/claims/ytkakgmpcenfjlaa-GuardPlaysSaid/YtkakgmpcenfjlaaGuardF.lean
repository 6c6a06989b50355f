/- GuardForward, walked. -/
import Derived.Test.YtkakgmpcenfjlaaGuardC
import Derived.Test.YtkakgmpcenfjlaaGuardP
import Derived.WalkSmall
set_option linter.unusedVariables false
set_option linter.unusedSimpArgs false
set_option maxRecDepth 100000
namespace Go.Proofs.Ytkakgmpcenfjlaa.Handle
open Go.RowKit Go.Proofs.YtkakgmpcenfjlaaW.PrintWords
/-- The cells of the i-th thing that a handle is told. -/
structure DoAt (w : World) (b off i : Nat) (d : DoS) : Prop where
  c0 : w.cell? ⟨b, off + i * 6, none⟩ = some (.int .i64 d.kind)
  c1 : w.cell? ⟨b, off + i * 6 + 1, none⟩ = some (.int .i64 d.n)
  c2 : w.cell? ⟨b, off + i * 6 + 2, none⟩ = some (.int .u64 d.at_)
  c3 : w.cell? ⟨b, off + i * 6 + 3, none⟩ = some (.int .i64 d.op)
  c4 : w.cell? ⟨b, off + i * 6 + 4, none⟩ = some (.int .i64 d.cn)
  c5 : w.cell? ⟨b, off + i * 6 + 5, none⟩ = some (.slice d.A d.l d.C)
theorem DoAt.old {B : Nat} {w w' : World} {b off i : Nat} {d : DoS} (h : DoAt w b off i d) (hB : Below B w w') (hb : b < B) : DoAt w' b off i d :=
  ⟨(hB.cell hb).trans h.c0, (hB.cell hb).trans h.c1, (hB.cell hb).trans h.c2, (hB.cell hb).trans h.c3, (hB.cell hb).trans h.c4, (hB.cell hb).trans h.c5⟩
set_option maxHeartbeats 8000000 in
theorem walkForward (cap st : Int) (A : Option Addr) (c : Nat) (ds : List DoS) (w0 : World) (hlen : ds.length ≤ 100)
    (hat : ∀ i (h : i < ds.length), ∃ b off, A = some ⟨b, off, none⟩ ∧ b < w0.heap.size ∧ DoAt w0 b off i ds[i])
    (hwf : ∀ d ∈ ds, -9223372036854775808 ≤ d.n ∧ d.n < 9223372036854775808) (hr : rightB cap = true) (hst1 : 0 ≤ st) (hst2 : st < 18446744073709551616) :
    Calls Try.prog 4 #[.int .i64 cap, .int .u64 st, .slice A ds.length c] w0 fun e w' => e = .returned (.bool true) ∧ Below w0.heap.size w0 w' := by
  have t1 : decide (100 < (ds.length : Int)) = false := decide_eq_false (by omega)
  go_enter Try.func4, Try.ntmps4
  go_wp2_with fail
  go_at_call 22
  refine (consumer64 cap st _ hr).mono ?_
  rintro e w1 ⟨rfl, s1, b1, z1⟩
  obtain ⟨g, hgz⟩ : ∃ g, Aside (w0.heap.size = g) := ⟨_, ⟨rfl⟩⟩
  rw [hgz.out] at s1 b1 z1 hat ⊢
  go_wp2_with (go_at_call 23; refine (refR _ _).mono ?_; rintro e w' ⟨rfl, rfl⟩)
  have hcb := (right_bd hr).2
  go_loopw [8] (fun v wr => ∃ (i : Nat) (G U : Int) (s : HS), i ≤ ds.length ∧ v = .int .i64 i ∧ Stands .u64 82 wr g s ∧ Rel 18446744073709551616 st cap s G U ∧ Below g w0 wr) (fun v _ => ds.length - (intOf v).toNat)
  case atStart => exact ⟨0, 0, 0, _, Nat.zero_le _, rfl, s1, ⟨rfl, rfl, rfl, by show st = _; omega, by show st = _; omega, by omega, by have := (right_bd hr).1; omega⟩, b1⟩
  case round =>
    obtain ⟨i, G, U, s, hi, rfl, hs, hR, hB⟩ := hrel
    by_cases hlt : i < ds.length
    · have t2 : decide ((i : Int) < (ds.length : Int)) = true := decide_eq_true (by omega)
      obtain ⟨b, off, rfl, hbg, hD0⟩ := hat i hlt
      have hD := hD0.old hB hbg
      have hwd := hwf ds[i] (List.getElem_mem hlt)
      have hF := Aside.mk (forward ds[i] hR hcb hwd.1 hwd.2)
      have hfw := Aside.mk hwf
      have hA := Aside.mk hat
      clear hwf hat hR hwd hD0
      have hi0 : (0 : Int) ≤ (i : Int) := by omega
      have hil : (i : Int) < (ds.length : Int) := by omega
      obtain ⟨hc0, hc1, hc2, hc3, hc4, hc5⟩ := hD
      have hu := Try.underlying44
      have hu2 := Try.underlying42
      go_wp2_with (first | (go_at_call 25; refine (gate64 _ _ _ hs).mono ?_; rintro e w' ⟨rfl, rfl⟩) | (go_at_call 26; refine (upto64 _ _ _ hs).mono ?_; rintro e w' ⟨rfl, rfl⟩))
      go_at_call 27
      refine (greatT g s ds[i] _ hs).mono ?_
      rintro e w2 ⟨rfl, hs2, ho2⟩
      have hB2 := hB.trans (ho2.below (Nat.le_refl _) (Nat.le_of_lt hs.lt))
      obtain ⟨hR2, f1, f2, f3, f4⟩ := hF.out
      have hR3 := Aside.mk hR2
      clear hR2 hF ho2 hc0 hc1 hc2 hc3 hc4 hc5 hB hs hu hu2
      have hB3 := Aside.mk hB2
      clear hB2
      generalize greatF ds[i] s = r at *
      generalize s.gate = x0 at *
      generalize s.upto = x1 at *
      go_wp2_with (first | (go_at_call 25; refine (gate64 g r.1 _ (by first | exact hs2 | exact hs2.drewN _)).mono ?_; rintro e w' ⟨rfl, rfl⟩) | (go_at_call 26; refine (upto64 g r.1 _ (by first | exact hs2 | exact hs2.drewN _)).mono ?_; rintro e w' ⟨rfl, rfl⟩) | (go_at_call 29; refine (ready64 g r.1 _ (by first | exact hs2 | exact hs2.drewN _)).mono ?_; rintro e w' ⟨rfl, mq, rfl⟩) | (go_at_call 28; refine (less64 _ _ _).mono ?_; rintro e w' ⟨rfl, rfl⟩) | (go_at_call 30; refine (diff64 _ _ _).mono ?_; rintro e w' ⟨rfl, rfl⟩))
      go_roundw
      case rel =>
        obtain ⟨G', U', hR'⟩ := hR3.out
        exact ⟨i + 1, G', U', r.1, by omega, by go_num, by first | exact hs2 | exact hs2.drewN _, hR', by first | exact hB3.out | exact hB3.out.drewN_ _⟩
      case measure => simp [intOf]; omega
    · have t2 : decide ((i : Int) < (ds.length : Int)) = false := decide_eq_false (by omega)
      have hB3 := Aside.mk hB
      clear hB hs hR hat hwf
      go_wp2_with fail
      go_at_call 24
      refine (live _).mono ?_
      rintro e w3 ⟨rfl, b3⟩
      go_wp2
      go_ret
      exact ⟨rfl, by rw [hgz.out]; exact hB3.out.trans (b3.mono (by have := hB3.out.size; have := hgz.out; omega))⟩
theorem walkForwardN (cap st : Int) (A : Option Addr) (n c : Nat) (w0 : World) (hr : rightB cap = false) :
    Calls Try.prog 4 #[.int .i64 cap, .int .u64 st, .slice A n c] w0 fun e w' => e = .returned (.bool true) ∧ Below w0.heap.size w0 w' := by
  go_enter Try.func4, Try.ntmps4
  go_wp2_with (first | (go_at_call 22; refine (consumer64N cap st _ hr).mono ?_; rintro e w' ⟨rfl, rfl⟩) | (go_at_call 23; refine (refR _ _).mono ?_; rintro e w' ⟨rfl, rfl⟩) | (go_at_call 24; refine (live _).mono ?_; rintro e w3 ⟨rfl, b3⟩))
  go_ret
  exact ⟨rfl, b3⟩
theorem walkForwardL (cap st : Int) (A : Option Addr) (n c : Nat) (w0 : World) (hr : rightB cap = true) (hn : 100 < n) :
    Calls Try.prog 4 #[.int .i64 cap, .int .u64 st, .slice A n c] w0 fun e w' => e = .returned (.bool true) ∧ Below w0.heap.size w0 w' := by
  have t1 : decide (100 < (n : Int)) = true := decide_eq_true (by omega)
  go_enter Try.func4, Try.ntmps4
  go_wp2_with fail
  go_at_call 22
  refine (consumer64 cap st _ hr).mono ?_
  rintro e w1 ⟨rfl, s1, b1, z1⟩
  have hb1 := Aside.mk b1
  clear b1 s1
  go_wp2_with (first | (go_at_call 23; refine (refR _ _).mono ?_; rintro e w' ⟨rfl, rfl⟩) | (go_at_call 24; refine (live _).mono ?_; rintro e w3 ⟨rfl, b3⟩))
  go_ret
  exact ⟨rfl, hb1.out.trans (b3.mono (by omega))⟩
end Go.Proofs.Ytkakgmpcenfjlaa.Handle
