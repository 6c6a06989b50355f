/- The contracts of package wide's functions, of sakiaref01's, and of sakialaw01's 'live': each tells which number or truth it answers, and leaves the world as it was. -/
import Derived.Test.YtjaiodlfgpndoaaProg
import Derived.WalkKit
import Derived.KernelRfl
import Derived.RowKit3
import Derived.Laws.BitsLemmas
set_option linter.unusedVariables false
set_option linter.unusedSimpArgs false
namespace Go.Proofs.Ytjaiodlfgpndoaa.Wide
open Go.RowKit
def s32 (x : Int) : Int := wrap64 (wrap32 x)
def d32 (a b : Int) : Int := s32 ((a - b) % 4294967296)
def d64 (a b : Int) : Int := wrap64 (IntKind.u64.wrap (a - b))
def a32 (a n : Int) : Int := (a + n % 4294967296) % 4294967296
def a64 (a n : Int) : Int := IntKind.u64.wrap (a + IntKind.u64.wrap n)
theorem of32 (a : Int) (w : World) : Calls Try.prog 11 #[.int .u64 a] w fun e w' => e = .returned (.int .u32 (a % 4294967296)) ∧ w = w' := by
  go_enter Try.func11, Try.ntmps11
  go_wp2
  go_ret
  exact ⟨rfl, rfl⟩
theorem add32 (a n : Int) (w : World) : Calls Try.prog 12 #[.int .u32 a, .int .i64 n] w fun e w' => e = .returned (.int .u32 (a32 a n)) ∧ w = w' := by
  go_enter Try.func12, Try.ntmps12
  go_wp2
  go_ret
  exact ⟨rfl, rfl⟩
theorem add64 (a n : Int) (w : World) : Calls Try.prog 13 #[.int .u64 a, .int .i64 n] w fun e w' => e = .returned (.int .u64 (a64 a n)) ∧ w = w' := by
  go_enter Try.func13, Try.ntmps13
  go_wp2
  go_ret
  exact ⟨rfl, rfl⟩
theorem bits32 (w : World) : Calls Try.prog 59 #[] w fun e w' => e = .returned (.int .i64 32) ∧ w = w' := by
  go_enter Try.func59, Try.ntmps59
  go_wp2
  go_ret
  exact ⟨rfl, rfl⟩
theorem bits64 (w : World) : Calls Try.prog 60 #[] w fun e w' => e = .returned (.int .i64 64) ∧ w = w' := by
  go_enter Try.func60, Try.ntmps60
  go_wp2
  go_ret
  exact ⟨rfl, rfl⟩
theorem signed32 (x : Int) (w : World) : Calls Try.prog 57 #[.int .u32 x] w fun e w' => e = .returned (.int .i64 (s32 x)) ∧ w = w' := by
  go_enter Try.func57, Try.ntmps57
  go_wp2_with (go_at_call 59; refine (bits32 _).mono ?_; rintro e w' ⟨rfl, rfl⟩)
  go_ret
  exact ⟨rfl, rfl⟩
theorem signed64 (x : Int) (w : World) : Calls Try.prog 58 #[.int .u64 x] w fun e w' => e = .returned (.int .i64 (wrap64 x)) ∧ w = w' := by
  go_enter Try.func58, Try.ntmps58
  go_wp2_with (go_at_call 60; refine (bits64 _).mono ?_; rintro e w' ⟨rfl, rfl⟩)
  go_ret
  exact ⟨rfl, rfl⟩
theorem diff32 (a b : Int) (w : World) : Calls Try.prog 14 #[.int .u32 a, .int .u32 b] w fun e w' => e = .returned (.int .i64 (d32 a b)) ∧ w = w' := by
  go_enter Try.func14, Try.ntmps14
  go_wp2_with (go_at_call 57; refine (signed32 _ _).mono ?_; rintro e w' ⟨rfl, rfl⟩)
  go_ret
  exact ⟨rfl, rfl⟩
theorem diff64 (a b : Int) (w : World) : Calls Try.prog 16 #[.int .u64 a, .int .u64 b] w fun e w' => e = .returned (.int .i64 (d64 a b)) ∧ w = w' := by
  go_enter Try.func16, Try.ntmps16
  go_wp2_with (go_at_call 58; refine (signed64 _ _).mono ?_; rintro e w' ⟨rfl, rfl⟩)
  go_ret
  exact ⟨rfl, rfl⟩
theorem less32 (a b : Int) (w : World) : Calls Try.prog 15 #[.int .u32 a, .int .u32 b] w fun e w' => e = .returned (.bool (decide (d32 a b < 0))) ∧ w = w' := by
  go_enter Try.func15, Try.ntmps15
  go_wp2_with (go_at_call 14; refine (diff32 _ _ _).mono ?_; rintro e w' ⟨rfl, rfl⟩)
  go_ret
  exact ⟨rfl, rfl⟩
theorem less64 (a b : Int) (w : World) : Calls Try.prog 17 #[.int .u64 a, .int .u64 b] w fun e w' => e = .returned (.bool (decide (d64 a b < 0))) ∧ w = w' := by
  go_enter Try.func17, Try.ntmps17
  go_wp2_with (go_at_call 16; refine (diff64 _ _ _).mono ?_; rintro e w' ⟨rfl, rfl⟩)
  go_ret
  exact ⟨rfl, rfl⟩
theorem e1 : d32 2 4294967293 = 5 := by decide +kernel
theorem e2 : d32 4294967293 2 = -5 := by decide +kernel
theorem live (w : World) : Calls Try.prog 18 #[] w fun e w' => e = .returned (.bool true) ∧ w = w' := by
  have h1 := e1
  have h2 := e2
  go_enter Try.func18, Try.ntmps18
  go_wp2_with (first | (go_at_call 14; refine (diff32 _ _ _).mono ?_; rintro e w' ⟨rfl, rfl⟩) | (go_at_call 15; refine (less32 _ _ _).mono ?_; rintro e w' ⟨rfl, rfl⟩) | (go_at_call 59; refine (bits32 _).mono ?_; rintro e w' ⟨rfl, rfl⟩) | (go_at_call 60; refine (bits64 _).mono ?_; rintro e w' ⟨rfl, rfl⟩))
  go_ret
  exact ⟨rfl, rfl⟩
theorem walkBack (a n m : Int) (w : World) (hb1 : d32 (a32 (a % 4294967296) n) (a % 4294967296) = n) (hb2 : d64 (a64 a m) a = m) (hb3 : wrap64 n = n):
    Calls Try.prog 3 #[.int .u64 a, .int .i32 n, .int .i64 m] w fun e w' => e = .returned (.bool true) ∧ w = w' := by
  go_enter Try.func3, Try.ntmps3
  go_wp2_with (first | (go_at_call 11; refine (of32 _ _).mono ?_; rintro e w' ⟨rfl, rfl⟩) | (go_at_call 12; refine (add32 _ _ _).mono ?_; rintro e w' ⟨rfl, rfl⟩) | (go_at_call 13; refine (add64 _ _ _).mono ?_; rintro e w' ⟨rfl, rfl⟩) | (go_at_call 14; refine (diff32 _ _ _).mono ?_; rintro e w' ⟨rfl, rfl⟩) | (go_at_call 15; refine (less32 _ _ _).mono ?_; rintro e w' ⟨rfl, rfl⟩) | (go_at_call 16; refine (diff64 _ _ _).mono ?_; rintro e w' ⟨rfl, rfl⟩) | (go_at_call 17; refine (less64 _ _ _).mono ?_; rintro e w' ⟨rfl, rfl⟩) | (go_at_call 18; refine (live _).mono ?_; rintro e w' ⟨rfl, rfl⟩))
  go_ret
  exact ⟨rfl, rfl⟩
/-! ### Plain numbers -/
theorem u64_bd {a : Int} (h : (Lit.int .u64 a).wf = true) : 0 ≤ a ∧ a < 18446744073709551616 := by
  simp [Lit.wf, IntKind.min, IntKind.max, IntKind.bits, IntKind.signed] at h; omega
theorem i64_bd {a : Int} (h : (Lit.int .i64 a).wf = true) : -9223372036854775808 ≤ a ∧ a < 9223372036854775808 := by
  simp [Lit.wf, IntKind.min, IntKind.max, IntKind.bits, IntKind.signed] at h; omega
theorem i32_bd {a : Int} (h : (Lit.int .i32 a).wf = true) : -2147483648 ≤ a ∧ a < 2147483648 := by
  simp [Lit.wf, IntKind.min, IntKind.max, IntKind.bits, IntKind.signed] at h; omega
theorem u64_wrap (a : Int) : IntKind.u64.wrap a = a % 18446744073709551616 := by
  simp [IntKind.wrap, IntKind.bits, IntKind.signed]
theorem back32 (a n : Int) (h : -2147483648 ≤ n ∧ n < 2147483648) : d32 (a32 (a % 4294967296) n) (a % 4294967296) = n := by
  unfold d32 a32 s32 wrap64 wrap32; omega
theorem back64 (a m : Int) (h : -9223372036854775808 ≤ m ∧ m < 9223372036854775808) : d64 (a64 a m) a = m := by
  unfold d64 a64 wrap64; simp only [u64_wrap]; omega
theorem i32_in64 (n : Int) (h : -2147483648 ≤ n ∧ n < 2147483648) : wrap64 n = n := by
  unfold wrap64; omega
end Go.Proofs.Ytjaiodlfgpndoaa.Wide
