/- The contracts of package event's and sakiaref15's words: which word a number has, and which number a word. -/
import Derived.Test.YtabcdcnnamflfaaDoorProg
import Derived.WalkKit
import Derived.KernelRfl
import Derived.RowKit3
import Derived.Laws.BitsLemmas
import Derived.Below
import Derived.WalkSmall
import Derived.Deep.QuietTactic
import Derived.BigQuiet
import Derived.Handy
set_option linter.unusedVariables false
set_option linter.unusedSimpArgs false
namespace Go.Proofs.YtabcdcnnamflfaaDoor.EvWords
open Go.RowKit
/-- What was in memory is as it was. -/
def Grew (w w' : World) : Prop := Below w.heap.size w w'
theorem Grew.refl (w : World) : Grew w w := Below.refl _ _
theorem Grew.trans {w w1 w2 : World} (h : Grew w w1) (k : Grew w1 w2) : Grew w w2 := by
  have hs := Below.size h
  exact Below.trans h ⟨k.os, k.tape, k.output, k.size, fun i hi => k.block i (Nat.lt_of_lt_of_le hi hs)⟩
theorem Grew.alloc {w w1 : World} (h : Grew w w1) (o : Obj) : Grew w (w1.alloc o) := Below.alloc h (Below.size h) o
theorem Grew.drewN {w w1 : World} (h : Grew w w1) (n : Nat) : Grew w (w1.drewN n) := below_drewN h n

theorem ret_int {k : IntKind} {a b : Int} (h : a = b) : Ending.returned (.int k a) = .returned (.int k b) := by rw [h]
def kindV : Array Value := #[.string (⟨#[]⟩ : ByteArray), .string (⟨#[105, 110, 118, 111, 107, 101]⟩ : ByteArray), .string (⟨#[114, 101, 116, 117, 114, 110]⟩ : ByteArray), .string (⟨#[116, 97, 107, 101]⟩ : ByteArray), .string (⟨#[103, 114, 97, 110, 116]⟩ : ByteArray), .string (⟨#[112, 117, 116]⟩ : ByteArray), .string (⟨#[115, 101, 101, 110]⟩ : ByteArray), .string (⟨#[102, 114, 101, 101]⟩ : ByteArray)]
theorem kindAt0 (w : World) : (Instr.index 119 (.agg kindV) (.int .i64 0)).run Tryd.prog w = .ok (.string (⟨#[]⟩ : ByteArray)) w := by kernel_rfl
theorem kindAt1 (w : World) : (Instr.index 119 (.agg kindV) (.int .i64 1)).run Tryd.prog w = .ok (.string (⟨#[105, 110, 118, 111, 107, 101]⟩ : ByteArray)) w := by kernel_rfl
theorem kindAt2 (w : World) : (Instr.index 119 (.agg kindV) (.int .i64 2)).run Tryd.prog w = .ok (.string (⟨#[114, 101, 116, 117, 114, 110]⟩ : ByteArray)) w := by kernel_rfl
theorem kindAt3 (w : World) : (Instr.index 119 (.agg kindV) (.int .i64 3)).run Tryd.prog w = .ok (.string (⟨#[116, 97, 107, 101]⟩ : ByteArray)) w := by kernel_rfl
theorem kindAt4 (w : World) : (Instr.index 119 (.agg kindV) (.int .i64 4)).run Tryd.prog w = .ok (.string (⟨#[103, 114, 97, 110, 116]⟩ : ByteArray)) w := by kernel_rfl
theorem kindAt5 (w : World) : (Instr.index 119 (.agg kindV) (.int .i64 5)).run Tryd.prog w = .ok (.string (⟨#[112, 117, 116]⟩ : ByteArray)) w := by kernel_rfl
theorem kindAt6 (w : World) : (Instr.index 119 (.agg kindV) (.int .i64 6)).run Tryd.prog w = .ok (.string (⟨#[115, 101, 101, 110]⟩ : ByteArray)) w := by kernel_rfl
theorem kindAt7 (w : World) : (Instr.index 119 (.agg kindV) (.int .i64 7)).run Tryd.prog w = .ok (.string (⟨#[102, 114, 101, 101]⟩ : ByteArray)) w := by kernel_rfl
def kindWord (n : Int) : ByteArray := if n = 1 then (⟨#[105, 110, 118, 111, 107, 101]⟩ : ByteArray) else if n = 2 then (⟨#[114, 101, 116, 117, 114, 110]⟩ : ByteArray) else if n = 3 then (⟨#[116, 97, 107, 101]⟩ : ByteArray) else if n = 4 then (⟨#[103, 114, 97, 110, 116]⟩ : ByteArray) else if n = 5 then (⟨#[112, 117, 116]⟩ : ByteArray) else if n = 6 then (⟨#[115, 101, 101, 110]⟩ : ByteArray) else if n = 7 then (⟨#[102, 114, 101, 101]⟩ : ByteArray) else (⟨#[]⟩ : ByteArray)
def kindOf (s : ByteArray) : Int := if (([105, 110, 118, 111, 107, 101] : List UInt8) == s.toList) = true then 1 else if (([114, 101, 116, 117, 114, 110] : List UInt8) == s.toList) = true then 2 else if (([116, 97, 107, 101] : List UInt8) == s.toList) = true then 3 else if (([103, 114, 97, 110, 116] : List UInt8) == s.toList) = true then 4 else if (([112, 117, 116] : List UInt8) == s.toList) = true then 5 else if (([115, 101, 101, 110] : List UInt8) == s.toList) = true then 6 else if (([102, 114, 101, 101] : List UInt8) == s.toList) = true then 7 else 0
def opV : Array Value := #[.string (⟨#[]⟩ : ByteArray), .string (⟨#[99, 108, 97, 105, 109]⟩ : ByteArray), .string (⟨#[112, 117, 98, 108, 105, 115, 104]⟩ : ByteArray), .string (⟨#[97, 118, 97, 105, 108]⟩ : ByteArray), .string (⟨#[114, 101, 108, 101, 97, 115, 101]⟩ : ByteArray), .string (⟨#[115, 101, 110, 100]⟩ : ByteArray), .string (⟨#[114, 101, 99, 101, 105, 118, 101]⟩ : ByteArray)]
theorem opAt0 (w : World) : (Instr.index 111 (.agg opV) (.int .i64 0)).run Tryd.prog w = .ok (.string (⟨#[]⟩ : ByteArray)) w := by kernel_rfl
theorem opAt1 (w : World) : (Instr.index 111 (.agg opV) (.int .i64 1)).run Tryd.prog w = .ok (.string (⟨#[99, 108, 97, 105, 109]⟩ : ByteArray)) w := by kernel_rfl
theorem opAt2 (w : World) : (Instr.index 111 (.agg opV) (.int .i64 2)).run Tryd.prog w = .ok (.string (⟨#[112, 117, 98, 108, 105, 115, 104]⟩ : ByteArray)) w := by kernel_rfl
theorem opAt3 (w : World) : (Instr.index 111 (.agg opV) (.int .i64 3)).run Tryd.prog w = .ok (.string (⟨#[97, 118, 97, 105, 108]⟩ : ByteArray)) w := by kernel_rfl
theorem opAt4 (w : World) : (Instr.index 111 (.agg opV) (.int .i64 4)).run Tryd.prog w = .ok (.string (⟨#[114, 101, 108, 101, 97, 115, 101]⟩ : ByteArray)) w := by kernel_rfl
theorem opAt5 (w : World) : (Instr.index 111 (.agg opV) (.int .i64 5)).run Tryd.prog w = .ok (.string (⟨#[115, 101, 110, 100]⟩ : ByteArray)) w := by kernel_rfl
theorem opAt6 (w : World) : (Instr.index 111 (.agg opV) (.int .i64 6)).run Tryd.prog w = .ok (.string (⟨#[114, 101, 99, 101, 105, 118, 101]⟩ : ByteArray)) w := by kernel_rfl
def opWord (n : Int) : ByteArray := if n = 1 then (⟨#[99, 108, 97, 105, 109]⟩ : ByteArray) else if n = 2 then (⟨#[112, 117, 98, 108, 105, 115, 104]⟩ : ByteArray) else if n = 3 then (⟨#[97, 118, 97, 105, 108]⟩ : ByteArray) else if n = 4 then (⟨#[114, 101, 108, 101, 97, 115, 101]⟩ : ByteArray) else if n = 5 then (⟨#[115, 101, 110, 100]⟩ : ByteArray) else if n = 6 then (⟨#[114, 101, 99, 101, 105, 118, 101]⟩ : ByteArray) else (⟨#[]⟩ : ByteArray)
def opOf (s : ByteArray) : Int := if (([99, 108, 97, 105, 109] : List UInt8) == s.toList) = true then 1 else if (([112, 117, 98, 108, 105, 115, 104] : List UInt8) == s.toList) = true then 2 else if (([97, 118, 97, 105, 108] : List UInt8) == s.toList) = true then 3 else if (([114, 101, 108, 101, 97, 115, 101] : List UInt8) == s.toList) = true then 4 else if (([115, 101, 110, 100] : List UInt8) == s.toList) = true then 5 else if (([114, 101, 99, 101, 105, 118, 101] : List UInt8) == s.toList) = true then 6 else 0
theorem kindTab (w : World) : Calls Tryd.prog 87 #[] w fun e w' => e = .returned (.agg kindV) ∧ Grew w w' := by
  go_enter Tryd.func87, Tryd.ntmps87
  go_wp2
  refine bodyPost_ret (v := .agg kindV) (by simp [results, Tryd.results87, go_sem]; rfl) rfl ⟨rfl, ?_⟩
  exact ((Grew.refl _).alloc _)
theorem kindWord_in (n : Int) (h1 : 1 ≤ n) (h2 : n ≤ 7) (w : World) : Calls Tryd.prog 67 #[.int .i64 n] w fun e w' => e = .returned (.string (kindWord n)) ∧ Grew w w' := by
  have hcase : n = 1 ∨ n = 2 ∨ n = 3 ∨ n = 4 ∨ n = 5 ∨ n = 6 ∨ n = 7 := by omega
  rcases hcase with rfl | rfl | rfl | rfl | rfl | rfl | rfl
  · have hi := kindAt1
    go_enter Tryd.func67, Tryd.ntmps67
    go_wp2_with (go_at_call 87; refine (kindTab _).mono ?_; rintro e w1 ⟨rfl, hb⟩)
    go_ret
    exact ⟨rfl, hb⟩
  · have hi := kindAt2
    go_enter Tryd.func67, Tryd.ntmps67
    go_wp2_with (go_at_call 87; refine (kindTab _).mono ?_; rintro e w1 ⟨rfl, hb⟩)
    go_ret
    exact ⟨rfl, hb⟩
  · have hi := kindAt3
    go_enter Tryd.func67, Tryd.ntmps67
    go_wp2_with (go_at_call 87; refine (kindTab _).mono ?_; rintro e w1 ⟨rfl, hb⟩)
    go_ret
    exact ⟨rfl, hb⟩
  · have hi := kindAt4
    go_enter Tryd.func67, Tryd.ntmps67
    go_wp2_with (go_at_call 87; refine (kindTab _).mono ?_; rintro e w1 ⟨rfl, hb⟩)
    go_ret
    exact ⟨rfl, hb⟩
  · have hi := kindAt5
    go_enter Tryd.func67, Tryd.ntmps67
    go_wp2_with (go_at_call 87; refine (kindTab _).mono ?_; rintro e w1 ⟨rfl, hb⟩)
    go_ret
    exact ⟨rfl, hb⟩
  · have hi := kindAt6
    go_enter Tryd.func67, Tryd.ntmps67
    go_wp2_with (go_at_call 87; refine (kindTab _).mono ?_; rintro e w1 ⟨rfl, hb⟩)
    go_ret
    exact ⟨rfl, hb⟩
  · have hi := kindAt7
    go_enter Tryd.func67, Tryd.ntmps67
    go_wp2_with (go_at_call 87; refine (kindTab _).mono ?_; rintro e w1 ⟨rfl, hb⟩)
    go_ret
    exact ⟨rfl, hb⟩
theorem kindWord_out (n : Int) (h : n < 1 ∨ 7 < n) (w : World) : Calls Tryd.prog 67 #[.int .i64 n] w fun e w' => e = .returned (.string (kindWord n)) ∧ Grew w w' := by
  have he : kindWord n = (⟨#[]⟩ : ByteArray) := by unfold kindWord; repeat rw [if_neg (by omega)]
  rw [he]
  rcases h with h | h
  · have hd : decide (n < 1) = true := decide_eq_true h
    go_enter Tryd.func67, Tryd.ntmps67
    go_wp2
    go_ret
    exact ⟨rfl, Grew.refl _⟩
  · have h1 : decide (n < 1) = false := decide_eq_false (by omega)
    have hd : decide (7 < n) = true := decide_eq_true h
    go_enter Tryd.func67, Tryd.ntmps67
    go_wp2
    go_ret
    exact ⟨rfl, Grew.refl _⟩
theorem kindWord_any (n : Int) (w : World) : Calls Tryd.prog 67 #[.int .i64 n] w fun e w' => e = .returned (.string (kindWord n)) ∧ Grew w w' := by
  by_cases h1 : 1 ≤ n
  · by_cases h2 : n ≤ 7
    · exact kindWord_in n h1 h2 w
    · exact kindWord_out n (by omega) w
  · exact kindWord_out n (by omega) w
theorem opTab (w : World) : Calls Tryd.prog 80 #[] w fun e w' => e = .returned (.agg opV) ∧ Grew w w' := by
  go_enter Tryd.func80, Tryd.ntmps80
  go_wp2
  refine bodyPost_ret (v := .agg opV) (by simp [results, Tryd.results80, go_sem]; rfl) rfl ⟨rfl, ?_⟩
  exact ((Grew.refl _).alloc _)
theorem opWord_in (n : Int) (h1 : 1 ≤ n) (h2 : n ≤ 6) (w : World) : Calls Tryd.prog 88 #[.int .i64 n] w fun e w' => e = .returned (.string (opWord n)) ∧ Grew w w' := by
  have hcase : n = 1 ∨ n = 2 ∨ n = 3 ∨ n = 4 ∨ n = 5 ∨ n = 6 := by omega
  rcases hcase with rfl | rfl | rfl | rfl | rfl | rfl
  · have hi := opAt1
    go_enter Tryd.func88, Tryd.ntmps88
    go_wp2_with (go_at_call 80; refine (opTab _).mono ?_; rintro e w1 ⟨rfl, hb⟩)
    go_ret
    exact ⟨rfl, hb⟩
  · have hi := opAt2
    go_enter Tryd.func88, Tryd.ntmps88
    go_wp2_with (go_at_call 80; refine (opTab _).mono ?_; rintro e w1 ⟨rfl, hb⟩)
    go_ret
    exact ⟨rfl, hb⟩
  · have hi := opAt3
    go_enter Tryd.func88, Tryd.ntmps88
    go_wp2_with (go_at_call 80; refine (opTab _).mono ?_; rintro e w1 ⟨rfl, hb⟩)
    go_ret
    exact ⟨rfl, hb⟩
  · have hi := opAt4
    go_enter Tryd.func88, Tryd.ntmps88
    go_wp2_with (go_at_call 80; refine (opTab _).mono ?_; rintro e w1 ⟨rfl, hb⟩)
    go_ret
    exact ⟨rfl, hb⟩
  · have hi := opAt5
    go_enter Tryd.func88, Tryd.ntmps88
    go_wp2_with (go_at_call 80; refine (opTab _).mono ?_; rintro e w1 ⟨rfl, hb⟩)
    go_ret
    exact ⟨rfl, hb⟩
  · have hi := opAt6
    go_enter Tryd.func88, Tryd.ntmps88
    go_wp2_with (go_at_call 80; refine (opTab _).mono ?_; rintro e w1 ⟨rfl, hb⟩)
    go_ret
    exact ⟨rfl, hb⟩
theorem opWord_out (n : Int) (h : n < 1 ∨ 6 < n) (w : World) : Calls Tryd.prog 88 #[.int .i64 n] w fun e w' => e = .returned (.string (opWord n)) ∧ Grew w w' := by
  have he : opWord n = (⟨#[]⟩ : ByteArray) := by unfold opWord; repeat rw [if_neg (by omega)]
  rw [he]
  rcases h with h | h
  · have hd : decide (n < 1) = true := decide_eq_true h
    go_enter Tryd.func88, Tryd.ntmps88
    go_wp2
    go_ret
    exact ⟨rfl, Grew.refl _⟩
  · have h1 : decide (n < 1) = false := decide_eq_false (by omega)
    have hd : decide (6 < n) = true := decide_eq_true h
    go_enter Tryd.func88, Tryd.ntmps88
    go_wp2
    go_ret
    exact ⟨rfl, Grew.refl _⟩
theorem opWord_any (n : Int) (w : World) : Calls Tryd.prog 88 #[.int .i64 n] w fun e w' => e = .returned (.string (opWord n)) ∧ Grew w w' := by
  by_cases h1 : 1 ≤ n
  · by_cases h2 : n ≤ 6
    · exact opWord_in n h1 h2 w
    · exact opWord_out n (by omega) w
  · exact opWord_out n (by omega) w
theorem kindOf_empty {s : ByteArray} (h : s.toList.isEmpty = true) : kindOf s = 0 := by
  have e : s.toList = [] := by simpa using h
  unfold kindOf
  rw [e]
  rfl
theorem kindOf_any (s : ByteArray) (w : World) : Calls Tryd.prog 82 #[.string s] w fun e w' => e = .returned (.int .i64 (kindOf s)) ∧ Grew w w' := by
  have hi0 := kindAt0
  have hi1 := kindAt1
  have hi2 := kindAt2
  have hi3 := kindAt3
  have hi4 := kindAt4
  have hi5 := kindAt5
  have hi6 := kindAt6
  have hi7 := kindAt7
  go_enter Tryd.func82, Tryd.ntmps82
  go_wp2_with (go_at_call 87; refine (kindTab _).mono ?_; rintro e w1 ⟨rfl, hb⟩)
  refine wp_loop_rounds 9 ?_
  rw [rounds_succ]
  go_wp2
  · go_ret
    exact ⟨ret_int (kindOf_empty (by assumption)).symm, hb⟩
  rw [rounds_succ]
  go_wp2
  · go_ret
    exact ⟨ret_int (by simp [kindOf, *]), hb⟩
  rw [rounds_succ]
  go_wp2
  · go_ret
    exact ⟨ret_int (by simp [kindOf, *]), hb⟩
  rw [rounds_succ]
  go_wp2
  · go_ret
    exact ⟨ret_int (by simp [kindOf, *]), hb⟩
  rw [rounds_succ]
  go_wp2
  · go_ret
    exact ⟨ret_int (by simp [kindOf, *]), hb⟩
  rw [rounds_succ]
  go_wp2
  · go_ret
    exact ⟨ret_int (by simp [kindOf, *]), hb⟩
  rw [rounds_succ]
  go_wp2
  · go_ret
    exact ⟨ret_int (by simp [kindOf, *]), hb⟩
  rw [rounds_succ]
  go_wp2
  · go_ret
    exact ⟨ret_int (by simp [kindOf, *]), hb⟩
  rw [rounds_succ]
  go_wp2
  go_ret
  exact ⟨ret_int (by simp [kindOf, *]), hb⟩
theorem opOf_empty {s : ByteArray} (h : s.toList.isEmpty = true) : opOf s = 0 := by
  have e : s.toList = [] := by simpa using h
  unfold opOf
  rw [e]
  rfl
theorem opOf_any (s : ByteArray) (w : World) : Calls Tryd.prog 58 #[.string s] w fun e w' => e = .returned (.int .i64 (opOf s)) ∧ Grew w w' := by
  have hi0 := opAt0
  have hi1 := opAt1
  have hi2 := opAt2
  have hi3 := opAt3
  have hi4 := opAt4
  have hi5 := opAt5
  have hi6 := opAt6
  go_enter Tryd.func58, Tryd.ntmps58
  go_wp2_with (go_at_call 80; refine (opTab _).mono ?_; rintro e w1 ⟨rfl, hb⟩)
  refine wp_loop_rounds 8 ?_
  rw [rounds_succ]
  go_wp2
  · go_ret
    exact ⟨ret_int (opOf_empty (by assumption)).symm, hb⟩
  rw [rounds_succ]
  go_wp2
  · go_ret
    exact ⟨ret_int (by simp [opOf, *]), hb⟩
  rw [rounds_succ]
  go_wp2
  · go_ret
    exact ⟨ret_int (by simp [opOf, *]), hb⟩
  rw [rounds_succ]
  go_wp2
  · go_ret
    exact ⟨ret_int (by simp [opOf, *]), hb⟩
  rw [rounds_succ]
  go_wp2
  · go_ret
    exact ⟨ret_int (by simp [opOf, *]), hb⟩
  rw [rounds_succ]
  go_wp2
  · go_ret
    exact ⟨ret_int (by simp [opOf, *]), hb⟩
  rw [rounds_succ]
  go_wp2
  · go_ret
    exact ⟨ret_int (by simp [opOf, *]), hb⟩
  rw [rounds_succ]
  go_wp2
  go_ret
  exact ⟨ret_int (by simp [opOf, *]), hb⟩
theorem kindRef_any (n : Int) (w : World) : Calls Tryd.prog 63 #[.int .i64 n] w fun e w' => e = .returned (.string (kindWord n)) ∧ Grew w w' := by
  by_cases h1 : n < 1
  · have he : kindWord n = (⟨#[]⟩ : ByteArray) := by unfold kindWord; repeat rw [if_neg (by omega)]
    rw [he]
    have hd : decide (n < 1) = true := decide_eq_true h1
    go_enter Tryd.func63, Tryd.ntmps63
    go_wp2
    go_ret
    exact ⟨rfl, (Grew.refl _).alloc _⟩
  · have hd1 : decide (n < 1) = false := decide_eq_false h1
    by_cases h2 : 7 < n
    · have he : kindWord n = (⟨#[]⟩ : ByteArray) := by unfold kindWord; repeat rw [if_neg (by omega)]
      rw [he]
      have hd : decide (7 < n) = true := decide_eq_true h2
      go_enter Tryd.func63, Tryd.ntmps63
      go_wp2
      go_ret
      exact ⟨rfl, (Grew.refl _).alloc _⟩
    · have hcase : n = 1 ∨ n = 2 ∨ n = 3 ∨ n = 4 ∨ n = 5 ∨ n = 6 ∨ n = 7 := by omega
      clear h1 h2 hd1
      rcases hcase with rfl | rfl | rfl | rfl | rfl | rfl | rfl
      · go_enter Tryd.func63, Tryd.ntmps63
        go_wp2
        go_ret
        exact ⟨rfl, (Grew.refl _).alloc _⟩
      · go_enter Tryd.func63, Tryd.ntmps63
        go_wp2
        go_ret
        exact ⟨rfl, (Grew.refl _).alloc _⟩
      · go_enter Tryd.func63, Tryd.ntmps63
        go_wp2
        go_ret
        exact ⟨rfl, (Grew.refl _).alloc _⟩
      · go_enter Tryd.func63, Tryd.ntmps63
        go_wp2
        go_ret
        exact ⟨rfl, (Grew.refl _).alloc _⟩
      · go_enter Tryd.func63, Tryd.ntmps63
        go_wp2
        go_ret
        exact ⟨rfl, (Grew.refl _).alloc _⟩
      · go_enter Tryd.func63, Tryd.ntmps63
        go_wp2
        go_ret
        exact ⟨rfl, (Grew.refl _).alloc _⟩
      · go_enter Tryd.func63, Tryd.ntmps63
        go_wp2
        go_ret
        exact ⟨rfl, (Grew.refl _).alloc _⟩
theorem opRef_any (n : Int) (w : World) : Calls Tryd.prog 60 #[.int .i64 n] w fun e w' => e = .returned (.string (opWord n)) ∧ Grew w w' := by
  by_cases h1 : n < 1
  · have he : opWord n = (⟨#[]⟩ : ByteArray) := by unfold opWord; repeat rw [if_neg (by omega)]
    rw [he]
    have hd : decide (n < 1) = true := decide_eq_true h1
    go_enter Tryd.func60, Tryd.ntmps60
    go_wp2
    go_ret
    exact ⟨rfl, (Grew.refl _).alloc _⟩
  · have hd1 : decide (n < 1) = false := decide_eq_false h1
    by_cases h2 : 6 < n
    · have he : opWord n = (⟨#[]⟩ : ByteArray) := by unfold opWord; repeat rw [if_neg (by omega)]
      rw [he]
      have hd : decide (6 < n) = true := decide_eq_true h2
      go_enter Tryd.func60, Tryd.ntmps60
      go_wp2
      go_ret
      exact ⟨rfl, (Grew.refl _).alloc _⟩
    · have hcase : n = 1 ∨ n = 2 ∨ n = 3 ∨ n = 4 ∨ n = 5 ∨ n = 6 := by omega
      clear h1 h2 hd1
      rcases hcase with rfl | rfl | rfl | rfl | rfl | rfl
      · go_enter Tryd.func60, Tryd.ntmps60
        go_wp2
        go_ret
        exact ⟨rfl, (Grew.refl _).alloc _⟩
      · go_enter Tryd.func60, Tryd.ntmps60
        go_wp2
        go_ret
        exact ⟨rfl, (Grew.refl _).alloc _⟩
      · go_enter Tryd.func60, Tryd.ntmps60
        go_wp2
        go_ret
        exact ⟨rfl, (Grew.refl _).alloc _⟩
      · go_enter Tryd.func60, Tryd.ntmps60
        go_wp2
        go_ret
        exact ⟨rfl, (Grew.refl _).alloc _⟩
      · go_enter Tryd.func60, Tryd.ntmps60
        go_wp2
        go_ret
        exact ⟨rfl, (Grew.refl _).alloc _⟩
      · go_enter Tryd.func60, Tryd.ntmps60
        go_wp2
        go_ret
        exact ⟨rfl, (Grew.refl _).alloc _⟩
end Go.Proofs.YtabcdcnnamflfaaDoor.EvWords
