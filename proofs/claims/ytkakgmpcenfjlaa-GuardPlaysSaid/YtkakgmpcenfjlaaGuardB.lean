/- What sakialaw14's small and great tell a handle. -/
import Derived.Test.YtkakgmpcenfjlaaGuardA
set_option linter.unusedVariables false
set_option linter.unusedSimpArgs false
set_option maxRecDepth 100000
namespace Go.Proofs.Ytkakgmpcenfjlaa.Handle
open Go.RowKit Go.Proofs.YtkakgmpcenfjlaaW.PrintWords
/-- What a handle is told. -/
structure DoS where
  kind : Int
  n : Int
  at_ : Int
  op : Int
  cn : Int
  A : Option Addr
  l : Nat
  C : Nat
def DoS.val (d : DoS) : Value := .agg #[.int .i64 d.kind, .int .i64 d.n, .int .u64 d.at_, .int .i64 d.op, .int .i64 d.cn, .slice d.A d.l d.C]
def greatF (d : DoS) (s : HS) : HS × Bool := if d.kind = 1 then claimedF d.at_ d.n s else if d.kind = 2 then publishedF s else if d.kind = 3 then saw64F (a64 s.gate d.n) s else if d.kind = 4 then released64F d.n s else (s, false)
def smallF (d : DoS) (s : HS) : HS × Bool := if d.kind = 1 then claimedF (d.at_ % 4294967296) d.n s else if d.kind = 2 then publishedF s else if d.kind = 3 then saw32F (a32 s.gate d.n) s else if d.kind = 4 then released32F d.n s else (s, false)
set_option maxHeartbeats 8000000 in
theorem greatT (g : Nat) (s : HS) (d : DoS) (w : World) (hs : Stands .u64 82 w g s) : Calls Try.prog 27 #[.pointer (some ⟨g, 0, none⟩), d.val] w fun e w' => e = .returned (.bool (greatF d s).2) ∧ Stands .u64 82 w' g (greatF d s).1 ∧ Only g w w' := by
  have hS := fun o => hs.old (below_alloc_ w o)
  have hO := fun o => Only.of_below (g := g) (below_alloc_ w o)
  unfold DoS.val
  by_cases o1 : d.kind = 1
  · have e1 : greatF d s = claimedF d.at_ d.n s := by unfold greatF; rw [if_pos o1]
    rw [e1, o1]
    clear e1
    go_enter Try.func27, Try.ntmps27
    go_wp2_with (go_at_call 59; refine (claimed64 g s d.at_ d.n _ (hS _)).mono ?_; rintro e w' ⟨rfl, hs', ho'⟩)
    go_ret
    exact ⟨rfl, hs', (hO _).trans ho'⟩
  by_cases o2 : d.kind = 2
  · have e1 : greatF d s = publishedF s := by unfold greatF; rw [if_neg o1, if_pos o2]
    rw [e1, o2]
    clear e1
    go_enter Try.func27, Try.ntmps27
    go_wp2_with (go_at_call 60; refine (published64 g s _ (hS _)).mono ?_; rintro e w' ⟨rfl, hs', ho'⟩)
    go_ret
    exact ⟨rfl, hs', (hO _).trans ho'⟩
  by_cases o3 : d.kind = 3
  · have e1 : greatF d s = saw64F (a64 s.gate d.n) s := by unfold greatF; rw [if_neg o1, if_neg o2, if_pos o3]
    rw [e1, o3]
    clear e1
    go_enter Try.func27, Try.ntmps27
    go_wp2_with fail
    have hS1 := hS (.cells #[.int .i64 3, .int .i64 d.n, .int .u64 d.at_, .int .i64 d.op, .int .i64 d.cn, .slice d.A d.l d.C] 44)
    have hO1 := hO (.cells #[.int .i64 3, .int .i64 d.n, .int .u64 d.at_, .int .i64 d.op, .int .i64 d.cn, .slice d.A d.l d.C] 44)
    have hn1 : (w.alloc (.cells #[.int .i64 3, .int .i64 d.n, .int .u64 d.at_, .int .i64 d.op, .int .i64 d.cn, .slice d.A d.l d.C] 44)).cell? ⟨w.heap.size, 1, none⟩ = some (.int .i64 d.n) := fresh_cell w _ _ _ _ rfl
    clear hS hO
    generalize (w.alloc (.cells #[.int .i64 3, .int .i64 d.n, .int .u64 d.at_, .int .i64 d.op, .int .i64 d.cn, .slice d.A d.l d.C] 44)) = w1 at *
    generalize w.heap.size = z at *
    go_still_tail 6, (by kernel_rfl)
    still_call ((gate64 g s _ (Stands.drew hS1)).mono (fun e w' h => ⟨h.1, h.2⟩))
    repeat still_step
    still_call ((add64 _ _ _).mono (fun e w' h => ⟨h.1, h.2.symm⟩))
    refine wpStill_nil ?_
    change wpList _ _ _ _ _ w1.drew
    go_wp2_with (go_at_call 61; refine (saw64 g s _ _ (Stands.drew hS1)).mono ?_; rintro e w' ⟨rfl, hs', ho'⟩)
    go_ret
    exact ⟨rfl, hs', hO1.drew.trans ho'⟩
  by_cases o4 : d.kind = 4
  · have e1 : greatF d s = released64F d.n s := by unfold greatF; rw [if_neg o1, if_neg o2, if_neg o3, if_pos o4]
    rw [e1, o4]
    clear e1
    go_enter Try.func27, Try.ntmps27
    go_wp2_with (go_at_call 63; refine (released64 g s d.n _ (hS _)).mono ?_; rintro e w' ⟨rfl, hs', ho'⟩)
    go_ret
    exact ⟨rfl, hs', (hO _).trans ho'⟩
  have q1 : (d.kind == 1) = false := by simpa using o1
  have q2 : (d.kind == 2) = false := by simpa using o2
  have q3 : (d.kind == 3) = false := by simpa using o3
  have q4 : (d.kind == 4) = false := by simpa using o4
  have e1 : greatF d s = (s, false) := by unfold greatF; rw [if_neg o1, if_neg o2, if_neg o3, if_neg o4]
  rw [e1]
  clear e1
  go_enter Try.func27, Try.ntmps27
  go_wp2
  go_ret
  exact ⟨rfl, hS _, hO _⟩
set_option maxHeartbeats 8000000 in
theorem smallT (g : Nat) (s : HS) (d : DoS) (w : World) (hs : Stands .u32 91 w g s) : Calls Try.prog 42 #[.pointer (some ⟨g, 0, none⟩), d.val] w fun e w' => e = .returned (.bool (smallF d s).2) ∧ Stands .u32 91 w' g (smallF d s).1 ∧ Only g w w' := by
  have hS := fun o => hs.old (below_alloc_ w o)
  have hO := fun o => Only.of_below (g := g) (below_alloc_ w o)
  unfold DoS.val
  by_cases o1 : d.kind = 1
  · have e1 : smallF d s = claimedF (d.at_ % 4294967296) d.n s := by unfold smallF; rw [if_pos o1]
    rw [e1, o1]
    clear e1
    go_enter Try.func42, Try.ntmps42
    go_wp2_with fail
    have hS1 := hS (.cells #[.int .i64 1, .int .i64 d.n, .int .u64 d.at_, .int .i64 d.op, .int .i64 d.cn, .slice d.A d.l d.C] 44)
    have hO1 := hO (.cells #[.int .i64 1, .int .i64 d.n, .int .u64 d.at_, .int .i64 d.op, .int .i64 d.cn, .slice d.A d.l d.C] 44)
    have hn1 : (w.alloc (.cells #[.int .i64 1, .int .i64 d.n, .int .u64 d.at_, .int .i64 d.op, .int .i64 d.cn, .slice d.A d.l d.C] 44)).cell? ⟨w.heap.size, 1, none⟩ = some (.int .i64 d.n) := fresh_cell w _ _ _ _ rfl
    have hn2 : (w.alloc (.cells #[.int .i64 1, .int .i64 d.n, .int .u64 d.at_, .int .i64 d.op, .int .i64 d.cn, .slice d.A d.l d.C] 44)).cell? ⟨w.heap.size, 2, none⟩ = some (.int .u64 d.at_) := fresh_cell w _ _ _ _ rfl
    clear hS hO
    generalize (w.alloc (.cells #[.int .i64 1, .int .i64 d.n, .int .u64 d.at_, .int .i64 d.op, .int .i64 d.cn, .slice d.A d.l d.C] 44)) = w1 at *
    generalize w.heap.size = z at *
    go_still_tail 7, (by kernel_rfl)
    still_call ((of32 _ _).mono (fun e w' h => ⟨h.1, h.2.symm⟩))
    repeat still_step
    refine wpStill_nil ?_
    change wpList _ _ _ _ _ w1.drew
    go_wp2_with (go_at_call 75; refine (claimed32 g s (d.at_ % 4294967296) d.n _ (Stands.drew hS1)).mono ?_; rintro e w' ⟨rfl, hs', ho'⟩)
    go_ret
    exact ⟨rfl, hs', hO1.drew.trans ho'⟩
  by_cases o2 : d.kind = 2
  · have e1 : smallF d s = publishedF s := by unfold smallF; rw [if_neg o1, if_pos o2]
    rw [e1, o2]
    clear e1
    go_enter Try.func42, Try.ntmps42
    go_wp2_with (go_at_call 76; refine (published32 g s _ (hS _)).mono ?_; rintro e w' ⟨rfl, hs', ho'⟩)
    go_ret
    exact ⟨rfl, hs', (hO _).trans ho'⟩
  by_cases o3 : d.kind = 3
  · have e1 : smallF d s = saw32F (a32 s.gate d.n) s := by unfold smallF; rw [if_neg o1, if_neg o2, if_pos o3]
    rw [e1, o3]
    clear e1
    go_enter Try.func42, Try.ntmps42
    go_wp2_with fail
    have hS1 := hS (.cells #[.int .i64 3, .int .i64 d.n, .int .u64 d.at_, .int .i64 d.op, .int .i64 d.cn, .slice d.A d.l d.C] 44)
    have hO1 := hO (.cells #[.int .i64 3, .int .i64 d.n, .int .u64 d.at_, .int .i64 d.op, .int .i64 d.cn, .slice d.A d.l d.C] 44)
    have hn1 : (w.alloc (.cells #[.int .i64 3, .int .i64 d.n, .int .u64 d.at_, .int .i64 d.op, .int .i64 d.cn, .slice d.A d.l d.C] 44)).cell? ⟨w.heap.size, 1, none⟩ = some (.int .i64 d.n) := fresh_cell w _ _ _ _ rfl
    clear hS hO
    generalize (w.alloc (.cells #[.int .i64 3, .int .i64 d.n, .int .u64 d.at_, .int .i64 d.op, .int .i64 d.cn, .slice d.A d.l d.C] 44)) = w1 at *
    generalize w.heap.size = z at *
    go_still_tail 6, (by kernel_rfl)
    still_call ((gate32 g s _ (Stands.drew hS1)).mono (fun e w' h => ⟨h.1, h.2⟩))
    repeat still_step
    still_call ((add32 _ _ _).mono (fun e w' h => ⟨h.1, h.2.symm⟩))
    refine wpStill_nil ?_
    change wpList _ _ _ _ _ w1.drew
    go_wp2_with (go_at_call 57; refine (saw32 g s _ _ (Stands.drew hS1)).mono ?_; rintro e w' ⟨rfl, hs', ho'⟩)
    go_ret
    exact ⟨rfl, hs', hO1.drew.trans ho'⟩
  by_cases o4 : d.kind = 4
  · have e1 : smallF d s = released32F d.n s := by unfold smallF; rw [if_neg o1, if_neg o2, if_neg o3, if_pos o4]
    rw [e1, o4]
    clear e1
    go_enter Try.func42, Try.ntmps42
    go_wp2_with (go_at_call 58; refine (released32 g s d.n _ (hS _)).mono ?_; rintro e w' ⟨rfl, hs', ho'⟩)
    go_ret
    exact ⟨rfl, hs', (hO _).trans ho'⟩
  have q1 : (d.kind == 1) = false := by simpa using o1
  have q2 : (d.kind == 2) = false := by simpa using o2
  have q3 : (d.kind == 3) = false := by simpa using o3
  have q4 : (d.kind == 4) = false := by simpa using o4
  have e1 : smallF d s = (s, false) := by unfold smallF; rw [if_neg o1, if_neg o2, if_neg o3, if_neg o4]
  rw [e1]
  clear e1
  go_enter Try.func42, Try.ntmps42
  go_wp2
  go_ret
  exact ⟨rfl, hS _, hO _⟩
end Go.Proofs.Ytkakgmpcenfjlaa.Handle
