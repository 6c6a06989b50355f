/- The contracts of package wide's functions, of sakiaref01's, and of sakialaw01's 'live': each tells which number or truth it answers, and leaves the world as it was. -/
import Derived.Test.YtjaiodlfgpndoaaProg
import Derived.WalkKit
import Derived.KernelRfl
import Derived.RowKit3
import Derived.Laws.BitsLemmas
import Derived.Below
import Derived.WalkSmall
import Derived.Deep.QuietTactic
import Derived.BigQuiet
set_option linter.unusedVariables false
set_option linter.unusedSimpArgs false
namespace Go.Proofs.Ytjaiodlfgpndoaa.Wide
open Go.RowKit
/-- A fact that the walk does not look into. -/
structure Aside (p : Prop) : Prop where mk :: (out : p)
def s32 (x : Int) : Int := wrap64 (wrap32 x)
def d32 (a b : Int) : Int := s32 ((a - b) % 4294967296)
def d64 (a b : Int) : Int := wrap64 (IntKind.u64.wrap (a - b))
def a32 (a n : Int) : Int := (a + n % 4294967296) % 4294967296
def a64 (a n : Int) : Int := IntKind.u64.wrap (a + IntKind.u64.wrap n)
theorem of32 (a : Int) (w : World) : Calls Try.prog 11 #[.int .u64 a] w fun e w' => e = .returned (.int .u32 (a % 4294967296)) ∧ w = w' := by
  go_enter Try.func11, Try.ntmps11
  go_wp2
  go_ret
  exact ⟨rfl, rfl⟩
theorem add32 (a n : Int) (w : World) : Calls Try.prog 12 #[.int .u32 a, .int .i64 n] w fun e w' => e = .returned (.int .u32 (a32 a n)) ∧ w = w' := by
  go_enter Try.func12, Try.ntmps12
  go_wp2
  go_ret
  exact ⟨rfl, rfl⟩
theorem add64 (a n : Int) (w : World) : Calls Try.prog 13 #[.int .u64 a, .int .i64 n] w fun e w' => e = .returned (.int .u64 (a64 a n)) ∧ w = w' := by
  go_enter Try.func13, Try.ntmps13
  go_wp2
  go_ret
  exact ⟨rfl, rfl⟩
theorem bits32 (w : World) : Calls Try.prog 59 #[] w fun e w' => e = .returned (.int .i64 32) ∧ w = w' := by
  go_enter Try.func59, Try.ntmps59
  go_wp2
  go_ret
  exact ⟨rfl, rfl⟩
theorem bits64 (w : World) : Calls Try.prog 60 #[] w fun e w' => e = .returned (.int .i64 64) ∧ w = w' := by
  go_enter Try.func60, Try.ntmps60
  go_wp2
  go_ret
  exact ⟨rfl, rfl⟩
theorem signed32 (x : Int) (w : World) : Calls Try.prog 57 #[.int .u32 x] w fun e w' => e = .returned (.int .i64 (s32 x)) ∧ w = w' := by
  go_enter Try.func57, Try.ntmps57
  go_wp2_with (go_at_call 59; refine (bits32 _).mono ?_; rintro e w' ⟨rfl, rfl⟩)
  go_ret
  exact ⟨rfl, rfl⟩
theorem signed64 (x : Int) (w : World) : Calls Try.prog 58 #[.int .u64 x] w fun e w' => e = .returned (.int .i64 (wrap64 x)) ∧ w = w' := by
  go_enter Try.func58, Try.ntmps58
  go_wp2_with (go_at_call 60; refine (bits64 _).mono ?_; rintro e w' ⟨rfl, rfl⟩)
  go_ret
  exact ⟨rfl, rfl⟩
theorem diff32 (a b : Int) (w : World) : Calls Try.prog 14 #[.int .u32 a, .int .u32 b] w fun e w' => e = .returned (.int .i64 (d32 a b)) ∧ w = w' := by
  go_enter Try.func14, Try.ntmps14
  go_wp2_with (go_at_call 57; refine (signed32 _ _).mono ?_; rintro e w' ⟨rfl, rfl⟩)
  go_ret
  exact ⟨rfl, rfl⟩
theorem diff64 (a b : Int) (w : World) : Calls Try.prog 16 #[.int .u64 a, .int .u64 b] w fun e w' => e = .returned (.int .i64 (d64 a b)) ∧ w = w' := by
  go_enter Try.func16, Try.ntmps16
  go_wp2_with (go_at_call 58; refine (signed64 _ _).mono ?_; rintro e w' ⟨rfl, rfl⟩)
  go_ret
  exact ⟨rfl, rfl⟩
theorem less32 (a b : Int) (w : World) : Calls Try.prog 15 #[.int .u32 a, .int .u32 b] w fun e w' => e = .returned (.bool (decide (d32 a b < 0))) ∧ w = w' := by
  go_enter Try.func15, Try.ntmps15
  go_wp2_with (go_at_call 14; refine (diff32 _ _ _).mono ?_; rintro e w' ⟨rfl, rfl⟩)
  go_ret
  exact ⟨rfl, rfl⟩
theorem less64 (a b : Int) (w : World) : Calls Try.prog 17 #[.int .u64 a, .int .u64 b] w fun e w' => e = .returned (.bool (decide (d64 a b < 0))) ∧ w = w' := by
  go_enter Try.func17, Try.ntmps17
  go_wp2_with (go_at_call 16; refine (diff64 _ _ _).mono ?_; rintro e w' ⟨rfl, rfl⟩)
  go_ret
  exact ⟨rfl, rfl⟩
theorem e1 : d32 2 4294967293 = 5 := by decide +kernel
theorem e2 : d32 4294967293 2 = -5 := by decide +kernel
theorem live (w : World) : Calls Try.prog 18 #[] w fun e w' => e = .returned (.bool true) ∧ w = w' := by
  have h1 := e1
  have h2 := e2
  go_enter Try.func18, Try.ntmps18
  go_wp2_with (first | (go_at_call 14; refine (diff32 _ _ _).mono ?_; rintro e w' ⟨rfl, rfl⟩) | (go_at_call 15; refine (less32 _ _ _).mono ?_; rintro e w' ⟨rfl, rfl⟩) | (go_at_call 59; refine (bits32 _).mono ?_; rintro e w' ⟨rfl, rfl⟩) | (go_at_call 60; refine (bits64 _).mono ?_; rintro e w' ⟨rfl, rfl⟩))
  go_ret
  exact ⟨rfl, rfl⟩
theorem walkBack (a n m : Int) (w : World) (hb1 : d32 (a32 (a % 4294967296) n) (a % 4294967296) = n) (hb2 : d64 (a64 a m) a = m) (hb3 : wrap64 n = n):
    Calls Try.prog 3 #[.int .u64 a, .int .i32 n, .int .i64 m] w fun e w' => e = .returned (.bool true) ∧ w = w' := by
  go_enter Try.func3, Try.ntmps3
  go_wp2_with (first | (go_at_call 11; refine (of32 _ _).mono ?_; rintro e w' ⟨rfl, rfl⟩) | (go_at_call 12; refine (add32 _ _ _).mono ?_; rintro e w' ⟨rfl, rfl⟩) | (go_at_call 13; refine (add64 _ _ _).mono ?_; rintro e w' ⟨rfl, rfl⟩) | (go_at_call 14; refine (diff32 _ _ _).mono ?_; rintro e w' ⟨rfl, rfl⟩) | (go_at_call 15; refine (less32 _ _ _).mono ?_; rintro e w' ⟨rfl, rfl⟩) | (go_at_call 16; refine (diff64 _ _ _).mono ?_; rintro e w' ⟨rfl, rfl⟩) | (go_at_call 17; refine (less64 _ _ _).mono ?_; rintro e w' ⟨rfl, rfl⟩) | (go_at_call 18; refine (live _).mono ?_; rintro e w' ⟨rfl, rfl⟩))
  go_ret
  exact ⟨rfl, rfl⟩
/-! ### Plain numbers -/
theorem u64_bd {a : Int} (h : (Lit.int .u64 a).wf = true) : 0 ≤ a ∧ a < 18446744073709551616 := by
  simp [Lit.wf, IntKind.min, IntKind.max, IntKind.bits, IntKind.signed] at h; omega
theorem i64_bd {a : Int} (h : (Lit.int .i64 a).wf = true) : -9223372036854775808 ≤ a ∧ a < 9223372036854775808 := by
  simp [Lit.wf, IntKind.min, IntKind.max, IntKind.bits, IntKind.signed] at h; omega
theorem i32_bd {a : Int} (h : (Lit.int .i32 a).wf = true) : -2147483648 ≤ a ∧ a < 2147483648 := by
  simp [Lit.wf, IntKind.min, IntKind.max, IntKind.bits, IntKind.signed] at h; omega
theorem u64_wrap (a : Int) : IntKind.u64.wrap a = a % 18446744073709551616 := by
  simp [IntKind.wrap, IntKind.bits, IntKind.signed]
theorem back32 (a n : Int) (h : -2147483648 ≤ n ∧ n < 2147483648) : d32 (a32 (a % 4294967296) n) (a % 4294967296) = n := by
  unfold d32 a32 s32 wrap64 wrap32; omega
theorem back64 (a m : Int) (h : -9223372036854775808 ≤ m ∧ m < 9223372036854775808) : d64 (a64 a m) a = m := by
  unfold d64 a64 wrap64; simp only [u64_wrap]; omega
theorem i32_in64 (n : Int) (h : -2147483648 ≤ n ∧ n < 2147483648) : wrap64 n = n := by
  unfold wrap64; omega
/-! ### Widths told as numbers -/
def cutW (w x : Int) : Int := if w = 32 then x % 4294967296 else if w = 64 then x else 0
def gapW (w a b : Int) : Int := if w = 32 then d32 (a % 4294967296) (b % 4294967296) else if w = 64 then d64 a b else 0
def plusW (w a n : Int) : Int := if w = 32 then a32 (a % 4294967296) n else if w = 64 then a64 a n else 0
def rightW (w : Int) : Bool := w == 32 || w == 64
theorem up32 (a : Int) (h : 0 ≤ a) (h2 : a < 4294967296) (w : World) : Calls Try.prog 61 #[.int .u32 a] w fun e w' => e = .returned (.int .u64 a) ∧ w = w' := by
  have e : IntKind.u64.wrap a = a := by rw [u64_wrap]; omega
  go_enter Try.func61, Try.ntmps61
  go_wp2
  go_ret
  exact ⟨rfl, rfl⟩
theorem of64 (a : Int) (w : World) : Calls Try.prog 64 #[.int .u64 a] w fun e w' => e = .returned (.int .u64 a) ∧ w = w' := by
  go_enter Try.func64, Try.ntmps64
  go_wp2
  go_ret
  exact ⟨rfl, rfl⟩
theorem up64 (a : Int) (w : World) : Calls Try.prog 65 #[.int .u64 a] w fun e w' => e = .returned (.int .u64 a) ∧ w = w' := by
  go_enter Try.func65, Try.ntmps65
  go_wp2
  go_ret
  exact ⟨rfl, rfl⟩
def in32 (x y n : Int) : Bool := decide (0 < n) && decide ((x - y) % 4294967296 < IntKind.u64.wrap n)
def in64 (x y n : Int) : Bool := decide (0 < n) && decide (IntKind.u64.wrap (x - y) < IntKind.u64.wrap n)
theorem within32 (x y n : Int) (w : World) : Calls Try.prog 62 #[.int .u32 x, .int .u32 y, .int .i64 n] w fun e w' => e = .returned (.bool (in32 x y n)) ∧ w = w' := by
  by_cases h : n < 1
  · have hf : in32 x y n = false := by unfold in32; simp; omega
    have hd : decide (n < 1) = true := decide_eq_true h
    have H := Aside.mk hf; clear hf
    go_enter Try.func62, Try.ntmps62
    go_wp2
    go_ret
    exact ⟨by rw [H.out]; rfl, rfl⟩
  · have hf : in32 x y n = decide ((x - y) % 4294967296 < IntKind.u64.wrap n) := by unfold in32; simp; omega
    have hd : decide (n < 1) = false := decide_eq_false h
    have H := Aside.mk hf; clear hf
    go_enter Try.func62, Try.ntmps62
    go_wp2
    go_ret
    exact ⟨by rw [H.out]; rfl, rfl⟩
theorem within64 (x y n : Int) (w : World) : Calls Try.prog 66 #[.int .u64 x, .int .u64 y, .int .i64 n] w fun e w' => e = .returned (.bool (in64 x y n)) ∧ w = w' := by
  by_cases h : n < 1
  · have hf : in64 x y n = false := by unfold in64; simp; omega
    have hd : decide (n < 1) = true := decide_eq_true h
    have H := Aside.mk hf; clear hf
    go_enter Try.func66, Try.ntmps66
    go_wp2
    go_ret
    exact ⟨by rw [H.out]; rfl, rfl⟩
  · have hf : in64 x y n = decide (IntKind.u64.wrap (x - y) < IntKind.u64.wrap n) := by unfold in64; simp; omega
    have hd : decide (n < 1) = false := decide_eq_false h
    have H := Aside.mk hf; clear hf
    go_enter Try.func66, Try.ntmps66
    go_wp2
    go_ret
    exact ⟨by rw [H.out]; rfl, rfl⟩
theorem right (n : Int) (w : World) : Calls Try.prog 23 #[.int .i64 n] w fun e w' => e = .returned (.bool (rightW n)) ∧ w = w' := by
  go_enter Try.func23, Try.ntmps23
  go_wp2
  all_goals (go_ret; exact ⟨by simp_all [rightW], rfl⟩)
theorem rright (n : Int) (w : World) : Calls Try.prog 24 #[.int .i64 n] w fun e w' => e = .returned (.bool (rightW n)) ∧ w = w' := by
  go_enter Try.func24, Try.ntmps24
  go_wp2
  all_goals (go_ret; exact ⟨by simp_all [rightW], rfl⟩)
theorem rcut (n x : Int) (h0 : 0 ≤ x) (w : World) : Calls Try.prog 26 #[.int .i64 n, .int .u64 x] w fun e w' => e = .returned (.int .u64 (cutW n x)) ∧ w = w' := by
  go_enter Try.func26, Try.ntmps26
  go_wp2
  all_goals (go_ret; exact ⟨by simp_all [cutW], rfl⟩)
theorem cut (n x : Int) (h0 : 0 ≤ x) (w : World) : Calls Try.prog 25 #[.int .i64 n, .int .u64 x] w fun e w' => e = .returned (.int .u64 (cutW n x)) ∧ w = w' := by
  go_enter Try.func25, Try.ntmps25
  go_wp2_with (first | (go_at_call 11; refine (of32 _ _).mono ?_; rintro e w' ⟨rfl, rfl⟩) | (go_at_call 61; refine (up32 _ (by omega) (by omega) _).mono ?_; rintro e w' ⟨rfl, rfl⟩))
  all_goals (go_ret; exact ⟨by simp_all [cutW], rfl⟩)
theorem ret_int {k : IntKind} {a b : Int} (h : a = b) : Ending.returned (.int k a) = .returned (.int k b) := by rw [h]
theorem gap (n a b : Int) (w : World) : Calls Try.prog 27 #[.int .i64 n, .int .u64 a, .int .u64 b] w fun e w' => e = .returned (.int .i64 (gapW n a b)) ∧ w = w' := by
  go_enter Try.func27, Try.ntmps27
  go_wp2_with (first | (go_at_call 11; refine (of32 _ _).mono ?_; rintro e w' ⟨rfl, rfl⟩) | (go_at_call 14; refine (diff32 _ _ _).mono ?_; rintro e w' ⟨rfl, rfl⟩) | (go_at_call 16; refine (diff64 _ _ _).mono ?_; rintro e w' ⟨rfl, rfl⟩))
  all_goals (go_ret; exact ⟨by simp_all [gapW], rfl⟩)
theorem a32_bd (a n : Int) : 0 ≤ a32 a n ∧ a32 a n < 4294967296 := by unfold a32; omega
theorem plus (n a m : Int) (w : World) : Calls Try.prog 28 #[.int .i64 n, .int .u64 a, .int .i64 m] w fun e w' => e = .returned (.int .u64 (plusW n a m)) ∧ w = w' := by
  go_enter Try.func28, Try.ntmps28
  go_wp2_with (first | (go_at_call 11; refine (of32 _ _).mono ?_; rintro e w' ⟨rfl, rfl⟩) | (go_at_call 12; refine (add32 _ _ _).mono ?_; rintro e w' ⟨rfl, rfl⟩) | (go_at_call 13; refine (add64 _ _ _).mono ?_; rintro e w' ⟨rfl, rfl⟩) | (go_at_call 61; refine (up32 _ (a32_bd _ _).1 (a32_bd _ _).2 _).mono ?_; rintro e w' ⟨rfl, rfl⟩))
  all_goals (go_ret; exact ⟨by simp_all [plusW], rfl⟩)
theorem rplus_eq (n a m : Int) : cutW n (a64 a m) = plusW n a m := by
  unfold cutW plusW a64 a32
  simp only [u64_wrap]
  split
  · omega
  · rfl
theorem rplus (n a m : Int) (w : World) : Calls Try.prog 30 #[.int .i64 n, .int .u64 a, .int .i64 m] w fun e w' => e = .returned (.int .u64 (plusW n a m)) ∧ w = w' := by
  have H := Aside.mk (rplus_eq n a m)
  have hb : 0 ≤ a64 a m := by unfold a64; simp only [u64_wrap]; omega
  go_enter Try.func30, Try.ntmps30
  go_wp2_with (first | (go_at_call 26; refine (rcut _ _ hb _).mono ?_; rintro e w' ⟨rfl, rfl⟩))
  all_goals (go_ret; exact ⟨by rw [← H.out]; rfl, rfl⟩)
theorem gap_a {n a b : Int} (h : (n == 64) = true) : wrap64 (IntKind.u64.wrap (a - b)) = gapW n a b := by
  obtain rfl : n = 64 := by simpa using h
  rfl
theorem gap_b {n a b : Int} (h : (n == 64) = false) (h2 : (n != 32) = true) : 0 = gapW n a b := by
  simp at h h2; simp [gapW, h, h2]
theorem gap_c {n a b : Int} (h2 : (n != 32) = false) (h3 : 2147483648 ≤ (a % 4294967296 + 4294967296 - b) % 4294967296) : (a % 4294967296 + 4294967296 - b) % 4294967296 - 4294967296 = gapW n a b := by
  obtain rfl : n = 32 := by simpa using h2
  simp only [gapW, if_true, d32, s32, wrap64, wrap32]; omega
theorem gap_d {n a b : Int} (h2 : (n != 32) = false) (h3 : (a % 4294967296 + 4294967296 - b) % 4294967296 < 2147483648) : (a % 4294967296 + 4294967296 - b) % 4294967296 = gapW n a b := by
  obtain rfl : n = 32 := by simpa using h2
  simp only [gapW, if_true, d32, s32, wrap64, wrap32]; omega
theorem rgap (n a b : Int) (ha : 0 ≤ a) (hb : 0 ≤ b) (w : World) : Calls Try.prog 29 #[.int .i64 n, .int .u64 a, .int .u64 b] w fun e w' => e = .returned (.int .i64 (gapW n a b)) ∧ w = w' := by
  go_enter Try.func29, Try.ntmps29
  go_wp2
  · go_ret; exact ⟨ret_int (gap_a (by assumption)), rfl⟩
  · go_ret; exact ⟨ret_int (gap_b (by assumption) (by assumption)), rfl⟩
  · go_ret; exact ⟨ret_int (gap_c (by assumption) (by assumption)), rfl⟩
  · go_ret; exact ⟨ret_int (gap_d (by assumption) (by assumption)), rfl⟩
def inW (n x y m : Int) : Bool := decide (0 < m) && decide (cutW n (IntKind.u64.wrap (x - y)) < IntKind.u64.wrap m)
theorem rwithin (n x y m : Int) (w : World) : Calls Try.prog 63 #[.int .i64 n, .int .u64 x, .int .u64 y, .int .i64 m] w fun e w' => e = .returned (.bool (inW n x y m)) ∧ w = w' := by
  have hb : 0 ≤ IntKind.u64.wrap (x - y) := by simp only [u64_wrap]; omega
  by_cases h : 0 < m
  · have hf : inW n x y m = decide (cutW n (IntKind.u64.wrap (x - y)) < IntKind.u64.wrap m) := by unfold inW; simp; omega
    have hd : decide (0 < m) = true := decide_eq_true h
    have H := Aside.mk hf; clear hf
    go_enter Try.func63, Try.ntmps63
    go_wp2_with (first | (go_at_call 26; refine (rcut _ _ hb _).mono ?_; rintro e w' ⟨rfl, rfl⟩))
    go_ret
    exact ⟨by rw [H.out]; rfl, rfl⟩
  · have hf : inW n x y m = false := by unfold inW; simp; omega
    have hd : decide (0 < m) = false := decide_eq_false h
    have H := Aside.mk hf; clear hf
    go_enter Try.func63, Try.ntmps63
    go_wp2_with (first | (go_at_call 26; refine (rcut _ _ hb _).mono ?_; rintro e w' ⟨rfl, rfl⟩))
    go_ret
    exact ⟨by rw [H.out]; rfl, rfl⟩
theorem small_n (a b n : Int) (h : 0 ≤ a ∧ 0 ≤ b) : in32 (a % 4294967296) (b % 4294967296) n = inW 32 a b n := by
  unfold in32 inW cutW
  simp only [if_true, u64_wrap]
  congr 2
  rw [show (a % 4294967296 - b % 4294967296) % 4294967296 = (a - b) % 18446744073709551616 % 4294967296 by omega]
theorem great_n (a b n : Int) : in64 a b n = inW 64 a b n := rfl
theorem small (a b n : Int) (ha : 0 ≤ a) (hb : 0 ≤ b) (w : World) : Calls Try.prog 19 #[.int .u64 a, .int .u64 b, .int .i64 n] w fun e w' => e = .returned (.bool true) ∧ w = w' := by
  have hn := small_n a b n ⟨ha, hb⟩
  have h1 : cutW 32 a = a % 4294967296 := rfl
  have h2 : plusW 32 a n = a32 (a % 4294967296) n := rfl
  have h3 : gapW 32 a b = d32 (a % 4294967296) (b % 4294967296) := rfl
  have hl := a32_bd (a % 4294967296) n
  obtain ⟨hl0, hl1⟩ := hl
  go_enter Try.func19, Try.ntmps19
  go_wp2_with (first | (go_at_call 11; refine (of32 _ _).mono ?_; rintro e w' ⟨rfl, rfl⟩) | (go_at_call 12; refine (add32 _ _ _).mono ?_; rintro e w' ⟨rfl, rfl⟩) | (go_at_call 61; refine (up32 _ (by omega) (by omega) _).mono ?_; rintro e w' ⟨rfl, rfl⟩) | (go_at_call 26; refine (rcut _ _ ha _).mono ?_; rintro e w' ⟨rfl, rfl⟩) | (go_at_call 30; refine (rplus _ _ _ _).mono ?_; rintro e w' ⟨rfl, rfl⟩) | (go_at_call 14; refine (diff32 _ _ _).mono ?_; rintro e w' ⟨rfl, rfl⟩) | (go_at_call 15; refine (less32 _ _ _).mono ?_; rintro e w' ⟨rfl, rfl⟩) | (go_at_call 29; refine (rgap _ _ _ ha hb _).mono ?_; rintro e w' ⟨rfl, rfl⟩) | (go_at_call 62; refine (within32 _ _ _ _).mono ?_; rintro e w' ⟨rfl, rfl⟩) | (go_at_call 63; refine (rwithin _ _ _ _ _).mono ?_; rintro e w' ⟨rfl, rfl⟩))
  go_ret
  exact ⟨rfl, rfl⟩
theorem great (a b n : Int) (ha : 0 ≤ a) (hb : 0 ≤ b) (w : World) : Calls Try.prog 20 #[.int .u64 a, .int .u64 b, .int .i64 n] w fun e w' => e = .returned (.bool true) ∧ w = w' := by
  have hn := great_n a b n
  have h1 : cutW 64 a = a := rfl
  have h2 : plusW 64 a n = a64 a n := rfl
  have h3 : gapW 64 a b = d64 a b := rfl
  go_enter Try.func20, Try.ntmps20
  go_wp2_with (first | (go_at_call 64; refine (of64 _ _).mono ?_; rintro e w' ⟨rfl, rfl⟩) | (go_at_call 13; refine (add64 _ _ _).mono ?_; rintro e w' ⟨rfl, rfl⟩) | (go_at_call 65; refine (up64 _ _).mono ?_; rintro e w' ⟨rfl, rfl⟩) | (go_at_call 26; refine (rcut _ _ ha _).mono ?_; rintro e w' ⟨rfl, rfl⟩) | (go_at_call 30; refine (rplus _ _ _ _).mono ?_; rintro e w' ⟨rfl, rfl⟩) | (go_at_call 16; refine (diff64 _ _ _).mono ?_; rintro e w' ⟨rfl, rfl⟩) | (go_at_call 17; refine (less64 _ _ _).mono ?_; rintro e w' ⟨rfl, rfl⟩) | (go_at_call 29; refine (rgap _ _ _ ha hb _).mono ?_; rintro e w' ⟨rfl, rfl⟩) | (go_at_call 66; refine (within64 _ _ _ _).mono ?_; rintro e w' ⟨rfl, rfl⟩) | (go_at_call 63; refine (rwithin _ _ _ _ _).mono ?_; rintro e w' ⟨rfl, rfl⟩))
  go_ret
  exact ⟨rfl, rfl⟩
theorem walkTells (a b n : Int) (ha : 0 ≤ a) (hb : 0 ≤ b) (w : World) : Calls Try.prog 4 #[.int .u64 a, .int .u64 b, .int .i64 n] w fun e w' => e = .returned (.bool true) ∧ w = w' := by
  go_enter Try.func4, Try.ntmps4
  go_wp2_with (first | (go_at_call 19; refine (small _ _ _ ha hb _).mono ?_; rintro e w' ⟨rfl, rfl⟩) | (go_at_call 20; refine (great _ _ _ ha hb _).mono ?_; rintro e w' ⟨rfl, rfl⟩) | (go_at_call 18; refine (live _).mono ?_; rintro e w' ⟨rfl, rfl⟩))
  go_ret
  exact ⟨rfl, rfl⟩
theorem not_right {n : Int} (h : rightW n = false) : (n == 32) = false ∧ (n == 64) = false := by
  simpa [rightW] using h
theorem cut_bd (n a : Int) (h : 0 ≤ a) : 0 ≤ cutW n a := by unfold cutW; split; omega; split; exact h; omega
theorem gap_wrong {n a b : Int} (h : rightW n = false) : gapW n a b = 0 := by
  obtain ⟨h1, h2⟩ := not_right h
  simp at h1 h2; simp [gapW, h1, h2]
theorem plus_wrong {n a m : Int} (h : rightW n = false) : plusW n a m = 0 := by
  obtain ⟨h1, h2⟩ := not_right h
  simp at h1 h2; simp [plusW, h1, h2]
theorem walkCuts (n a b m : Int) (ha : 0 ≤ a) (hb : 0 ≤ b) (w : World) : Calls Try.prog 6 #[.int .i64 n, .agg #[.int .u64 a, .int .u64 b], .int .i64 m] w fun e w' => e = .returned (.bool true) ∧ Below w.heap.size w w' := by
  cases hr : rightW n with
  | true =>
    go_enter Try.func6, Try.ntmps6
    go_wp2_with fail
    go_quiet (fail)
    go_wp2_with (first | (go_at_call 23; refine (right _ _).mono ?_; rintro e w' ⟨rfl, rfl⟩) | (go_at_call 24; refine (rright _ _).mono ?_; rintro e w' ⟨rfl, rfl⟩) | (go_at_call 25; refine (cut _ _ ha _).mono ?_; rintro e w' ⟨rfl, rfl⟩) | (go_at_call 26; refine (rcut _ _ ha _).mono ?_; rintro e w' ⟨rfl, rfl⟩) | (go_at_call 27; refine (gap _ _ _ _).mono ?_; rintro e w' ⟨rfl, rfl⟩) | (go_at_call 29; refine (rgap _ _ _ ha hb _).mono ?_; rintro e w' ⟨rfl, rfl⟩) | (go_at_call 28; refine (plus _ _ _ _).mono ?_; rintro e w' ⟨rfl, rfl⟩) | (go_at_call 30; refine (rplus _ _ _ _).mono ?_; rintro e w' ⟨rfl, rfl⟩) | (go_at_call 18; refine (live _).mono ?_; rintro e w' ⟨rfl, rfl⟩))
    go_ret
    exact ⟨rfl, below_drewN ((Below.refl _ _).alloc (Nat.le_refl _) _) _⟩
  | false =>
    have hg := @gap_wrong n a b hr
    have hp := @plus_wrong n a m hr
    go_enter Try.func6, Try.ntmps6
    go_wp2_with fail
    go_quiet (fail)
    go_wp2_with (first | (go_at_call 23; refine (right _ _).mono ?_; rintro e w' ⟨rfl, rfl⟩) | (go_at_call 24; refine (rright _ _).mono ?_; rintro e w' ⟨rfl, rfl⟩) | (go_at_call 25; refine (cut _ _ ha _).mono ?_; rintro e w' ⟨rfl, rfl⟩) | (go_at_call 26; refine (rcut _ _ ha _).mono ?_; rintro e w' ⟨rfl, rfl⟩) | (go_at_call 27; refine (gap _ _ _ _).mono ?_; rintro e w' ⟨rfl, rfl⟩) | (go_at_call 29; refine (rgap _ _ _ ha hb _).mono ?_; rintro e w' ⟨rfl, rfl⟩) | (go_at_call 28; refine (plus _ _ _ _).mono ?_; rintro e w' ⟨rfl, rfl⟩) | (go_at_call 30; refine (rplus _ _ _ _).mono ?_; rintro e w' ⟨rfl, rfl⟩) | (go_at_call 18; refine (live _).mono ?_; rintro e w' ⟨rfl, rfl⟩))
    go_ret
    exact ⟨rfl, below_drewN ((Below.refl _ _).alloc (Nat.le_refl _) _) _⟩
end Go.Proofs.Ytjaiodlfgpndoaa.Wide
