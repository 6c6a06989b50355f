/- sakialaw14's live: the document's example is as it says. -/
import Derived.Test.YtkakgmpcenfjlaaGuardB
set_option linter.unusedVariables false
set_option linter.unusedSimpArgs false
set_option maxRecDepth 100000
namespace Go.Proofs.Ytkakgmpcenfjlaa.Handle
open Go.RowKit Go.Proofs.YtkakgmpcenfjlaaW.PrintWords
theorem r4 : rightB 4 = true := by decide +kernel
def h1 : HS := ⟨4, false, false, 0, 0, 7, 10⟩
def h2 : HS := ⟨4, false, false, 0, 0, 10, 10⟩
theorem e1 : saw32F 10 (newC 4 7) = (h1, true) := by
  unfold saw32F
  rw [if_pos (by decide +kernel)]
  rfl
theorem e2 : may32E h1 4 4 ((0 : Nat) : Int) = 13 := by decide +kernel
theorem e3 : may32E h1 4 3 ((0 : Nat) : Int) = 0 := by decide +kernel
theorem e4 : released32F 3 h1 = (h2, true) := by
  unfold released32F
  rw [if_pos (by decide +kernel)]
  rfl
theorem e5 : d32 h2.upto h2.gate = 0 := by decide +kernel
set_option maxHeartbeats 8000000 in
theorem live (w : World) : Calls Try.prog 24 #[] w fun e w' => e = .returned (.bool true) ∧ Below w.heap.size w w' := by
  go_enter Try.func24, Try.ntmps24
  go_wp2_with fail
  go_at_call 33
  refine (consumer32 4 7 _ r4).mono ?_
  rintro e w1 ⟨rfl, s1, b1, z1⟩
  go_wp2_with fail
  go_at_call 57
  refine (saw32 _ _ 10 _ s1).mono ?_
  rintro e w2 ⟨rfl, s2, b2⟩
  rw [e1] at s2
  rw [e1]
  have B2 := b1.trans (b2.below (Nat.le_refl _) b1.size)
  clear b1 b2 s1
  obtain ⟨g, hgz⟩ : ∃ g, Aside (w.heap.size = g) := ⟨_, ⟨rfl⟩⟩
  rw [hgz.out] at s2 B2 z1 ⊢
  go_wp2_with fail
  go_at_call 39
  refine (may32 _ _ 4 4 none 0 0 _ s2).mono ?_
  rintro e w3 ⟨rfl, b3⟩
  rw [e2]
  have s3 := s2.old b3
  replace B2 := B2.trans (b3.mono (Nat.le_of_lt s2.lt))
  clear b3 s2
  go_wp2_with fail
  go_at_call 39
  refine (may32 _ _ 4 3 none 0 0 _ s3).mono ?_
  rintro e w4 ⟨rfl, b4⟩
  rw [e3]
  have s4 := s3.old b4
  replace B2 := B2.trans (b4.mono (Nat.le_of_lt s3.lt))
  clear b4 s3
  go_wp2_with fail
  go_at_call 58
  refine (released32 _ _ 3 _ s4).mono ?_
  rintro e w5 ⟨rfl, s5, b5⟩
  rw [e4] at s5
  rw [e4]
  replace B2 := B2.trans (b5.below (Nat.le_refl _) (Nat.le_of_lt s4.lt))
  clear b5 s4
  go_wp2_with fail
  go_at_call 45
  refine (gate32 _ _ _ s5).mono ?_
  rintro e w6 ⟨rfl, rfl⟩
  go_wp2_with fail
  go_at_call 46
  refine (ready32 _ _ _ s5).mono ?_
  rintro e w7 ⟨rfl, mq, rfl⟩
  rw [e5]
  simp only [h2]
  go_wp2
  go_ret
  exact ⟨rfl, by rw [hgz.out]; exact B2.drewN_ _⟩
end Go.Proofs.Ytkakgmpcenfjlaa.Handle
