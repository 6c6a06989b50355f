/- Handles that there are not: each method, and sakialaw14's small and great of them. -/
import Derived.Test.YtkakgmpcenfjlaaGuardC
set_option linter.unusedVariables false
set_option linter.unusedSimpArgs false
set_option maxRecDepth 100000
namespace Go.Proofs.Ytkakgmpcenfjlaa.Handle
open Go.RowKit Go.Proofs.YtkakgmpcenfjlaaW.PrintWords
theorem gateN32 (w : World) : Calls Try.prog 45 #[.pointer none] w fun e w' => e = .returned (.int .u32 0) ∧ w' = w := by
  go_enter Try.func45, Try.ntmps45
  go_wp2
  go_ret
  exact ⟨rfl, rfl⟩
theorem mayN32 (op n : Int) (A : Option Addr) (l C : Nat) (w : World) : Calls Try.prog 39 #[.pointer none, .agg #[.int .i64 op, .int .i64 n, .slice A l C]] w fun e w' => e = .returned (.int .i64 22) ∧ Below w.heap.size w w' := by
  go_enter Try.func39, Try.ntmps39
  go_wp2
  go_ret
  exact ⟨rfl, below_alloc_ w _⟩
theorem claimedN32 (fr n : Int) (w : World) : Calls Try.prog 75 #[.pointer none, .agg #[.int .u32 fr, .int .i64 n]] w fun e w' => e = .returned (.bool false) ∧ Below w.heap.size w w' := by
  go_enter Try.func75, Try.ntmps75
  go_wp2
  go_ret
  exact ⟨rfl, below_alloc_ w _⟩
theorem publishedN32 (w : World) : Calls Try.prog 76 #[.pointer none] w fun e w' => e = .returned (.bool false) ∧ w' = w := by
  go_enter Try.func76, Try.ntmps76
  go_wp2
  go_ret
  exact ⟨rfl, rfl⟩
theorem sawN32 (u : Int) (w : World) : Calls Try.prog 57 #[.pointer none, .int .u32 u] w fun e w' => e = .returned (.bool false) ∧ w' = w := by
  go_enter Try.func57, Try.ntmps57
  go_wp2
  go_ret
  exact ⟨rfl, rfl⟩
theorem releasedN32 (n : Int) (w : World) : Calls Try.prog 58 #[.pointer none, .int .i64 n] w fun e w' => e = .returned (.bool false) ∧ w' = w := by
  go_enter Try.func58, Try.ntmps58
  go_wp2
  go_ret
  exact ⟨rfl, rfl⟩
set_option maxHeartbeats 2000000 in
theorem smallN (d : DoS) (w : World) : Calls Try.prog 42 #[.pointer none, d.val] w fun e w' => e = .returned (.bool false) ∧ Below w.heap.size w w' := by
  unfold DoS.val
  by_cases o1 : d.kind = 1
  · rw [o1]
    go_enter Try.func42, Try.ntmps42
    go_wp2_with fail
    have hn1 : (w.alloc (.cells #[.int .i64 1, .int .i64 d.n, .int .u64 d.at_, .int .i64 d.op, .int .i64 d.cn, .slice d.A d.l d.C] 44)).cell? ⟨w.heap.size, 1, none⟩ = some (.int .i64 d.n) := fresh_cell w _ _ _ _ rfl
    have hn2 : (w.alloc (.cells #[.int .i64 1, .int .i64 d.n, .int .u64 d.at_, .int .i64 d.op, .int .i64 d.cn, .slice d.A d.l d.C] 44)).cell? ⟨w.heap.size, 2, none⟩ = some (.int .u64 d.at_) := fresh_cell w _ _ _ _ rfl
    have hO1 := below_alloc_ w (.cells #[.int .i64 1, .int .i64 d.n, .int .u64 d.at_, .int .i64 d.op, .int .i64 d.cn, .slice d.A d.l d.C] 44)
    generalize (w.alloc (.cells #[.int .i64 1, .int .i64 d.n, .int .u64 d.at_, .int .i64 d.op, .int .i64 d.cn, .slice d.A d.l d.C] 44)) = w1 at *
    obtain ⟨z, hz⟩ : ∃ z, Aside (w.heap.size = z) := ⟨_, ⟨rfl⟩⟩
    rw [hz.out] at hn1 hn2 hO1 ⊢
    have hsz := Aside.mk (by have := hO1.size; have := hz.out; show z ≤ w1.heap.size; omega : z ≤ w1.heap.size)
    go_still_tail 7, (by kernel_rfl)
    still_call ((of32 _ _).mono (fun e w' h => ⟨h.1, h.2.symm⟩))
    repeat still_step
    refine wpStill_nil ?_
    change wpList _ _ _ _ _ w1.drew
    go_wp2_with fail
    go_at_call 75
    refine (claimedN32 _ _ _).mono ?_
    rintro e w2 ⟨rfl, h2⟩
    have hO2 := hO1.drew.trans (h2.mono hsz.out)
    clear h2 hn1 hn2
    go_wp2
    go_ret
    exact ⟨rfl, by first | exact hO2 | (rw [hz.out]; exact hO2)⟩
  by_cases o2 : d.kind = 2
  · rw [o2]
    go_enter Try.func42, Try.ntmps42
    go_wp2_with (go_at_call 76; refine (publishedN32 _).mono ?_; rintro e w' ⟨rfl, rfl⟩)
    go_ret
    exact ⟨rfl, below_alloc_ w _⟩
  by_cases o3 : d.kind = 3
  · rw [o3]
    go_enter Try.func42, Try.ntmps42
    go_wp2_with fail
    go_quiet (first | (go_at_call 45; refine (gateN32 _).mono ?_; rintro e w' ⟨rfl, rfl⟩; first | exact ⟨rfl, _, rfl⟩ | skip) | (go_at_call 77; refine (add32 _ _ _).mono ?_; rintro e w' ⟨rfl, rfl⟩; first | exact ⟨rfl, _, rfl⟩ | skip) | (go_at_call 57; refine (sawN32 _ _).mono ?_; rintro e w' ⟨rfl, rfl⟩; first | exact ⟨rfl, _, rfl⟩ | skip))
    go_wp2
    go_ret
    exact ⟨rfl, (below_alloc_ w _).drewN_ _⟩
  by_cases o4 : d.kind = 4
  · rw [o4]
    go_enter Try.func42, Try.ntmps42
    go_wp2_with (go_at_call 58; refine (releasedN32 _ _).mono ?_; rintro e w' ⟨rfl, rfl⟩)
    go_ret
    exact ⟨rfl, below_alloc_ w _⟩
  have q1 : (d.kind == 1) = false := by simpa using o1
  have q2 : (d.kind == 2) = false := by simpa using o2
  have q3 : (d.kind == 3) = false := by simpa using o3
  have q4 : (d.kind == 4) = false := by simpa using o4
  go_enter Try.func42, Try.ntmps42
  go_wp2
  go_ret
  exact ⟨rfl, below_alloc_ w _⟩
theorem gateN64 (w : World) : Calls Try.prog 25 #[.pointer none] w fun e w' => e = .returned (.int .u64 0) ∧ w' = w := by
  go_enter Try.func25, Try.ntmps25
  go_wp2
  go_ret
  exact ⟨rfl, rfl⟩
theorem mayN64 (op n : Int) (A : Option Addr) (l C : Nat) (w : World) : Calls Try.prog 40 #[.pointer none, .agg #[.int .i64 op, .int .i64 n, .slice A l C]] w fun e w' => e = .returned (.int .i64 22) ∧ Below w.heap.size w w' := by
  go_enter Try.func40, Try.ntmps40
  go_wp2
  go_ret
  exact ⟨rfl, below_alloc_ w _⟩
theorem claimedN64 (fr n : Int) (w : World) : Calls Try.prog 59 #[.pointer none, .agg #[.int .u64 fr, .int .i64 n]] w fun e w' => e = .returned (.bool false) ∧ Below w.heap.size w w' := by
  go_enter Try.func59, Try.ntmps59
  go_wp2
  go_ret
  exact ⟨rfl, below_alloc_ w _⟩
theorem publishedN64 (w : World) : Calls Try.prog 60 #[.pointer none] w fun e w' => e = .returned (.bool false) ∧ w' = w := by
  go_enter Try.func60, Try.ntmps60
  go_wp2
  go_ret
  exact ⟨rfl, rfl⟩
theorem sawN64 (u : Int) (w : World) : Calls Try.prog 61 #[.pointer none, .int .u64 u] w fun e w' => e = .returned (.bool false) ∧ w' = w := by
  go_enter Try.func61, Try.ntmps61
  go_wp2
  go_ret
  exact ⟨rfl, rfl⟩
theorem releasedN64 (n : Int) (w : World) : Calls Try.prog 63 #[.pointer none, .int .i64 n] w fun e w' => e = .returned (.bool false) ∧ w' = w := by
  go_enter Try.func63, Try.ntmps63
  go_wp2
  go_ret
  exact ⟨rfl, rfl⟩
set_option maxHeartbeats 2000000 in
theorem greatN (d : DoS) (w : World) : Calls Try.prog 27 #[.pointer none, d.val] w fun e w' => e = .returned (.bool false) ∧ Below w.heap.size w w' := by
  unfold DoS.val
  by_cases o1 : d.kind = 1
  · rw [o1]
    go_enter Try.func27, Try.ntmps27
    go_wp2_with fail
    go_at_call 59
    refine (claimedN64 _ _ _).mono ?_
    rintro e w2 ⟨rfl, h2⟩
    have hO2 := (below_alloc_ w _).trans (h2.mono (below_alloc_ w _).size)
    clear h2
    go_wp2
    go_ret
    exact ⟨rfl, by first | exact hO2 | (rw [hz.out]; exact hO2)⟩
  by_cases o2 : d.kind = 2
  · rw [o2]
    go_enter Try.func27, Try.ntmps27
    go_wp2_with (go_at_call 60; refine (publishedN64 _).mono ?_; rintro e w' ⟨rfl, rfl⟩)
    go_ret
    exact ⟨rfl, below_alloc_ w _⟩
  by_cases o3 : d.kind = 3
  · rw [o3]
    go_enter Try.func27, Try.ntmps27
    go_wp2_with fail
    go_quiet (first | (go_at_call 25; refine (gateN64 _).mono ?_; rintro e w' ⟨rfl, rfl⟩; first | exact ⟨rfl, _, rfl⟩ | skip) | (go_at_call 62; refine (add64 _ _ _).mono ?_; rintro e w' ⟨rfl, rfl⟩; first | exact ⟨rfl, _, rfl⟩ | skip) | (go_at_call 61; refine (sawN64 _ _).mono ?_; rintro e w' ⟨rfl, rfl⟩; first | exact ⟨rfl, _, rfl⟩ | skip))
    go_wp2
    go_ret
    exact ⟨rfl, (below_alloc_ w _).drewN_ _⟩
  by_cases o4 : d.kind = 4
  · rw [o4]
    go_enter Try.func27, Try.ntmps27
    go_wp2_with (go_at_call 63; refine (releasedN64 _ _).mono ?_; rintro e w' ⟨rfl, rfl⟩)
    go_ret
    exact ⟨rfl, below_alloc_ w _⟩
  have q1 : (d.kind == 1) = false := by simpa using o1
  have q2 : (d.kind == 2) = false := by simpa using o2
  have q3 : (d.kind == 3) = false := by simpa using o3
  have q4 : (d.kind == 4) = false := by simpa using o4
  go_enter Try.func27, Try.ntmps27
  go_wp2
  go_ret
  exact ⟨rfl, below_alloc_ w _⟩
end Go.Proofs.Ytkakgmpcenfjlaa.Handle
