/- Package graph's functions, walked: what each answers of lists that may be, and of those that may not. -/
import Derived.Test.YtkakgmpcenfjlaaDoorGPure
import Derived.Test.YtkakgmpcenfjlaaDoorGAll
set_option linter.unusedVariables false
set_option linter.unusedSimpArgs false
set_option maxRecDepth 100000
namespace Go.Proofs.YtkakgmpcenfjlaaDoor.Graph
open Go.RowKit Go.Proofs.YtkakgmpcenfjlaaDoorW.PrintWords Go.Proofs.YtkakgmpcenfjlaaDoorW.PrintLast
/-- A fact that the walk does not look into. -/
structure Aside (p : Prop) : Prop where mk :: (out : p)
/-- What every walk here is given: lists, read. -/
structure Gv (w : World) (A : Option Addr) (C : Nat) (up : List (List Int)) : Prop where
  rd : Kd.C (Kd.slice 3 (Kd.int .i64)) w A up.length up
  cap : up.length ≤ C
  sm : QGc.Sm up
theorem Gv.below {w w' : World} {A : Option Addr} {C : Nat} {up : List (List Int)} (h : Gv w A C up) (b : Below w.heap.size w w') : Gv w' A C up := ⟨Kd.C_below h.rd b, h.cap, h.sm⟩
theorem w1 {i : Nat} (h : i < 4611686018427387904) : wrap64 ((i : Int) + 1) = ((i + 1 : Nat) : Int) := by unfold wrap64; omega
theorem i1 {i : Nat} (h : i < 4611686018427387904) : IntKind.i64.wrap ((i : Int) + 1) = ((i + 1 : Nat) : Int) := by rw [IntKind.wrap_i64]; omega
theorem check8 {w : World} {A : Option Addr} {C : Nat} {up : List (List Int)} (h : Gv w A C up) :
    Calls Tryd.prog 8 #[.slice A up.length C] w fun e w' => e = .returned (.int .i64 (checkG up)) ∧ Below w.heap.size w w' :=
  QGc.graph_Check.calls 100 A C up _ w h.rd h.cap (QGc.graph_check_ok up h.sm 100 (Nat.le_refl _))
set_option maxHeartbeats 1000000 in
theorem roots_bad {w : World} {A : Option Addr} {C : Nat} {up : List (List Int)} (h : Gv w A C up) (hc : checkG up ≠ 0) :
    Calls Tryd.prog 10 #[.slice A up.length C] w fun e w' => e = .returned (.slice none 0 0) ∧ Below w.heap.size w w' := by
  have h1 : (checkG up != 0) = true := by simpa using hc
  have H := Aside.mk (check8 h)
  clear hc h
  go_enter Tryd.func10, Tryd.ntmps10
  go_wp2_with (go_at_call 8; refine H.out.mono ?_; rintro e w' ⟨rfl, hb⟩)
  go_ret
  exact ⟨rfl, hb⟩
def rootsI (up : List (List Int)) : List Int := pick (fun c => (up.getD c []).isEmpty) up.length
set_option maxHeartbeats 4000000 in
theorem roots_ok {w : World} {A : Option Addr} {C : Nat} {up : List (List Int)} (h : Gv w A C up) (hc : checkG up = 0) :
    Calls Tryd.prog 10 #[.slice A up.length C] w fun e w' => ∃ A' c', e = .returned (.slice A' (rootsI up).length c') ∧ (rootsI up).length ≤ c' ∧ Kd.C (Kd.int .i64) w' A' (rootsI up).length (rootsI up) ∧ Below w.heap.size w w' := by
  have h1 : (checkG up != 0) = false := by simpa using hc
  have HF := Aside.mk (fine_of hc)
  have H := Aside.mk (check8 h)
  have HG := Aside.mk h
  clear hc h
  go_enter Tryd.func10, Tryd.ntmps10
  go_wp2_with (go_at_call 8; refine H.out.mono ?_; rintro e w' ⟨rfl, hb⟩; have HB0 := Aside.mk hb; clear hb)
  go_loopw [3, 11] (fun v x wr => ∃ i : Nat, i ≤ up.length ∧ x = .int .i64 i ∧ Aside (Kd.R (Kd.int .i64) 3 wr w.heap.size (fun _ => True) v (pick (fun c => (up.getD c []).isEmpty) i)) ∧ Aside (Below w.heap.size w wr)) (fun _ x _ => up.length - (intOf x).toNat)
  case atStart => exact ⟨0, Nat.zero_le _, rfl, ⟨Kd.R_nil _ _ _ _ _⟩, HB0⟩
  case round =>
    obtain ⟨i, hi, rfl, HO, HB⟩ := hrel
    clear h1
    by_cases hlt : i < up.length
    · have t1 : decide ((i : Int) < (up.length : Int)) = true := decide_eq_true (by omega)
      have t2 : decide (i < up.length) = true := decide_eq_true hlt
      have t3 : (i : Int) < (up.length : Int) := by omega
      have HI := Aside.mk hlt
      obtain ⟨ad, A0, c0, rfl, hrow, hl0, hnum⟩ := row_at HG.out.rd i hlt
      have hroww : wr.cell? (ad.add i) = some (.slice A0 (up.getD i []).length c0) := (HB.out.cell (World.block_lt_of_cell? _ _ hrow)).trans hrow
      obtain ⟨l, hL⟩ : ∃ l, up.getD i [] = l := ⟨_, rfl⟩
      rw [hL] at hroww
      have HLe := Aside.mk hL
      clear hrow hl0 hnum hL hi
      have ew := i1 (show i < 4611686018427387904 by have := HF.out.n6; omega)
      by_cases he : l.length = 0
      · have t4 : ((l.length : Int) == 0) = true := by simpa using he
        have hp : (fun c => (up.getD c []).isEmpty) i = true := by simp only [HLe.out]; rw [List.isEmpty_iff]; exact List.eq_nil_of_length_eq_zero he
        have HP := Aside.mk hp
        clear he hp hlt
        go_wp2_with (((with_reducible refine gate_builtin (b := .append) (xs := #[.tmp 19, .tmp 21]) rfl ?_); at_builtin; refine Kd.R_append (Kd.int .i64) (w0 := w) w.heap.size rfl (.tmp 19) (.tmp 21) 27 3 (.int .i64 0) 8 rfl Tryd.underlying27 info3 rfl (by decide) (by omega) u3 (pick (fun c => (up.getD c []).isEmpty) i) (i : Int) [.int .i64 (i : Int)] (fun _ => True) (fun _ => False) rfl rfl ?aP (fun _ hk => hk.elim) ?aF ?aO ?aB ?aS ?aL ?_; (case aP => exact rfl); (case aB => exact HB.out); (case aF => exact (fun _ _ => trivial)); (case aO => exact HO.out); (case aS => exact HB.out.size); (case aL => have := HI.out; have := HF.out.n6; have := pick_len (fun c => (up.getD c []).isEmpty) i; omega); intro vN wN hoN hbN hgN hatN; have HON := Aside.mk hoN; have HBN := Aside.mk hbN; clear hoN hbN hgN hatN))
        go_roundw
        case rel => exact ⟨i + 1, HI.out, by first | rfl | simp, ⟨by rw [pick_succ, if_pos HP.out]; exact HON.out⟩, HBN⟩
        case measure => have := HI.out; have e9 : ((i : Int) + 1).toNat = i + 1 := (by omega); simp only [intOf, e9, Int.toNat_natCast]; omega
      · have t4 : ((l.length : Int) == 0) = false := by simpa using he
        have hp : ¬ (fun c => (up.getD c []).isEmpty) i = true := by simp only [HLe.out]; rw [List.isEmpty_iff]; intro e; rw [e] at he; exact he rfl
        have HP := Aside.mk hp
        clear he hp hlt
        go_wp2
        go_roundw
        case rel => exact ⟨i + 1, HI.out, by first | rfl | simp, ⟨by rw [pick_succ, if_neg HP.out, List.append_nil]; exact HO.out⟩, HB⟩
        case measure => have := HI.out; have e9 : ((i : Int) + 1).toNat = i + 1 := (by omega); simp only [intOf, e9, Int.toNat_natCast]; omega
    · have t1 : decide ((i : Int) < (up.length : Int)) = false := decide_eq_false (by omega)
      have t2 : decide (i < up.length) = false := decide_eq_false hlt
      obtain rfl : i = up.length := by omega
      clear hlt hi
      go_wp2
      go_ret
      obtain ⟨A', c', rfl, h1, h2⟩ := Kd.R_reads HO.out
      exact ⟨A', c', rfl, h1, h2, HB.out⟩

theorem there_bad {w : World} {A : Option Addr} {C : Nat} {up : List (List Int)} (h : Gv w A C up) (c : Int) (hc : checkG up ≠ 0 ∨ c < 0 ∨ (up.length : Int) ≤ c) :
    Calls Tryd.prog 33 #[.slice A up.length C, .int .i64 c] w fun e w' => e = .returned (.bool false) ∧ Below w.heap.size w w' := by
  have H := Aside.mk (check8 h)
  clear h
  by_cases h0 : checkG up = 0
  · by_cases h2 : c < 0
    · have t1 : (checkG up == 0) = true := by simpa using h0
      have t2 : decide (0 ≤ c) = false := decide_eq_false (by omega)
      clear h0 h2 hc
      go_enter Tryd.func33, Tryd.ntmps33
      go_wp2_with (go_at_call 8; refine H.out.mono ?_; rintro e w' ⟨rfl, hb⟩)
      go_ret
      exact ⟨rfl, hb⟩
    · have t1 : (checkG up == 0) = true := by simpa using h0
      have t2 : decide (0 ≤ c) = true := decide_eq_true (by omega)
      have t3 : decide (c < (up.length : Int)) = false := decide_eq_false (by rcases hc with h | h | h; exact absurd h0 h; omega; omega)
      clear h0 h2 hc
      go_enter Tryd.func33, Tryd.ntmps33
      go_wp2_with (go_at_call 8; refine H.out.mono ?_; rintro e w' ⟨rfl, hb⟩)
      go_ret
      exact ⟨rfl, hb⟩
  · have t1 : (checkG up == 0) = false := by simpa using h0
    clear h0 hc
    go_enter Tryd.func33, Tryd.ntmps33
    go_wp2_with (go_at_call 8; refine H.out.mono ?_; rintro e w' ⟨rfl, hb⟩)
    go_ret
    exact ⟨rfl, hb⟩
theorem there_ok {w : World} {A : Option Addr} {C : Nat} {up : List (List Int)} (h : Gv w A C up) (c : Int) (h0 : checkG up = 0) (h1 : 0 ≤ c) (h2 : c < up.length) :
    Calls Tryd.prog 33 #[.slice A up.length C, .int .i64 c] w fun e w' => e = .returned (.bool true) ∧ Below w.heap.size w w' := by
  have H := Aside.mk (check8 h)
  have t1 : (checkG up == 0) = true := by simpa using h0
  have t2 : decide (0 ≤ c) = true := decide_eq_true h1
  have t3 : decide (c < (up.length : Int)) = true := decide_eq_true h2
  clear h0 h1 h2 h
  go_enter Tryd.func33, Tryd.ntmps33
  go_wp2_with (go_at_call 8; refine H.out.mono ?_; rintro e w' ⟨rfl, hb⟩)
  go_ret
  exact ⟨rfl, hb⟩
theorem above_bad {w : World} {A : Option Addr} {C : Nat} {up : List (List Int)} (h : Gv w A C up) (c : Int) (hc : checkG up ≠ 0 ∨ c < 0 ∨ (up.length : Int) ≤ c) :
    Calls Tryd.prog 12 #[.slice A up.length C, .int .i64 c] w fun e w' => e = .returned (.int .u64 0) ∧ Below w.heap.size w w' := by
  have H := Aside.mk (there_bad h c hc)
  clear hc h
  go_enter Tryd.func12, Tryd.ntmps12
  go_wp2_with (go_at_call 33; refine H.out.mono ?_; rintro e w' ⟨rfl, hb⟩)
  go_ret
  exact ⟨rfl, hb⟩
theorem above_ok {w : World} {A : Option Addr} {C : Nat} {up : List (List Int)} (h : Gv w A C up) (c : Nat) (h0 : checkG up = 0) (h2 : c < up.length) :
    Calls Tryd.prog 12 #[.slice A up.length C, .int .i64 c] w fun e w' => e = .returned (.int .u64 (aboveN up c)) ∧ Below w.heap.size w w' := by
  have H := Aside.mk (there_ok h (c : Int) h0 (by omega) (by omega))
  have HA := Aside.mk (fun w' (b : Below w.heap.size w w') => above w' A C up (fine_of h0).good c h2 (h.below b).rd)
  clear h h0 h2
  go_enter Tryd.func12, Tryd.ntmps12
  go_wp2_with (first | (go_at_call 33; refine H.out.mono ?_; rintro e w' ⟨rfl, hb⟩; have HB := Aside.mk hb; clear hb) | (go_at_call 30; refine (HA.out _ HB.out).mono ?_; rintro e w2 ⟨rfl, hb2⟩; have HB2 := Aside.mk (HB.out.trans (hb2.mono HB.out.size)); clear hb2))
  go_ret
  exact ⟨rfl, HB2.out⟩
theorem depth_bad {w : World} {A : Option Addr} {C : Nat} {up : List (List Int)} (h : Gv w A C up) (c : Int) (hc : checkG up ≠ 0 ∨ c < 0 ∨ (up.length : Int) ≤ c) :
    Calls Tryd.prog 24 #[.slice A up.length C, .int .i64 c] w fun e w' => e = .returned (.int .i64 0) ∧ Below w.heap.size w w' := by
  have H := Aside.mk (there_bad h c hc)
  clear hc h
  go_enter Tryd.func24, Tryd.ntmps24
  go_wp2_with (go_at_call 33; refine H.out.mono ?_; rintro e w' ⟨rfl, hb⟩)
  go_ret
  exact ⟨rfl, hb⟩
theorem below_bad {w : World} {A : Option Addr} {C : Nat} {up : List (List Int)} (h : Gv w A C up) (c : Int) (hc : checkG up ≠ 0 ∨ c < 0 ∨ (up.length : Int) ≤ c) :
    Calls Tryd.prog 16 #[.slice A up.length C, .int .i64 c] w fun e w' => e = .returned (.int .u64 0) ∧ Below w.heap.size w w' := by
  have H := Aside.mk (there_bad h c hc)
  clear hc h
  go_enter Tryd.func16, Tryd.ntmps16
  go_wp2_with (go_at_call 33; refine H.out.mono ?_; rintro e w' ⟨rfl, hb⟩)
  go_ret
  exact ⟨rfl, hb⟩
theorem ends_bad {w : World} {A : Option Addr} {C : Nat} {up : List (List Int)} (h : Gv w A C up) (hc : checkG up ≠ 0) :
    Calls Tryd.prog 11 #[.slice A up.length C] w fun e w' => e = .returned (.slice none 0 0) ∧ Below w.heap.size w w' := by
  have h1 : (checkG up != 0) = true := by simpa using hc
  have H := Aside.mk (check8 h)
  clear hc h
  go_enter Tryd.func11, Tryd.ntmps11
  go_wp2_with (go_at_call 8; refine H.out.mono ?_; rintro e w' ⟨rfl, hb⟩)
  go_ret
  exact ⟨rfl, hb⟩
theorem order_bad {w : World} {A : Option Addr} {C : Nat} {up : List (List Int)} (h : Gv w A C up) (hc : checkG up ≠ 0) :
    Calls Tryd.prog 17 #[.slice A up.length C] w fun e w' => e = .returned (.slice none 0 0) ∧ Below w.heap.size w w' := by
  have h1 : (checkG up != 0) = true := by simpa using hc
  have H := Aside.mk (fun w' (b : Below w.heap.size w w') => check8 (h.below b))
  have HB0 := Aside.mk (fun o => below_alloc (Below.refl w.heap.size w) o)
  clear hc h
  go_enter Tryd.func17, Tryd.ntmps17
  go_wp2_with (go_at_call 8; refine (H.out _ (HB0.out _)).mono ?_; rintro e w' ⟨rfl, hb⟩)
  go_ret
  exact ⟨rfl, (HB0.out _).trans (hb.mono (HB0.out _).size)⟩
/-! ### depth -/
theorem mx_nat (a d : Nat) : (if (a : Int) < ((d + 1 : Nat) : Int) then ((d + 1 : Nat) : Int) else (a : Int)) = ((max a (d + 1) : Nat) : Int) := by split <;> omega
set_option maxHeartbeats 4000000 in
theorem depthR {w : World} {A : Option Addr} {C : Nat} {up : List (List Int)} (h : Gv w A C up) (hf : Fine up) : ∀ (k c : Nat), k ≤ 7 → c < up.length → rank up c < k → ∀ w', Below w.heap.size w w' →
    Calls Tryd.prog 39 #[.slice A up.length C, .int .i64 c] w' fun e w2 => e = .returned (.int .i64 (dep up k c)) ∧ w' = w2 := by
  intro k
  induction k with
  | zero => intro c _ _ hr; omega
  | succ k ih =>
    intro c hk hc hr w' hb
    obtain ⟨ad, A0, c0, rfl, hrow, hl0, hnum⟩ := row_at h.rd c hc
    have hroww : w'.cell? (ad.add c) = some (.slice A0 (up.getD c []).length c0) := (hb.cell (World.block_lt_of_cell? _ _ hrow)).trans hrow
    have hat : ∀ j (hj : j < (up.getD c []).length), ∃ u : Nat, (up.getD c [])[j] = (u : Int) ∧ u < up.length ∧ rank up u < k := fun j hj => by
      obtain ⟨u, h1, h2, h3⟩ := rowAt hf hc hj
      have := rank_lt hf h3
      exact ⟨u, h1, h2, by omega⟩
    have HAT := Aside.mk hat
    obtain ⟨l, hL⟩ : ∃ l, up.getD c [] = l := ⟨_, rfl⟩
    have HD := Aside.mk (show dep up (k + 1) c = depL (dep up k) l by rw [← hL]; rfl)
    rw [hL] at hroww hnum HAT
    have HN := Aside.mk (Kd.C_below hnum hb)
    have HB := Aside.mk hb
    have HIH := Aside.mk (fun u => ih u (by omega))
    have HK := Aside.mk hk
    have HL20 := Aside.mk (show l.length ≤ 20 by rw [← hL]; exact h.sm.at c)
    have HM := Aside.mk (Kd.C_max hnum)
    have hci : (c : Int) < (up.length : Int) := by omega
    clear hrow hl0 hnum hat ih hb hr hL hk
    go_enter Tryd.func39, Tryd.ntmps39
    go_wp2_with fail
    clear hroww
    go_loopw [5, 13] (fun v x wr => ∃ i : Nat, i ≤ l.length ∧ x = .int .i64 i ∧ v = .int .i64 ((depL (dep up k) (l.take i) : Nat) : Int) ∧ wr = w') (fun _ x _ => l.length - (intOf x).toNat)
    case atStart => exact ⟨0, Nat.zero_le _, rfl, rfl, rfl⟩
    case round =>
      obtain ⟨i, hi, rfl, rfl, rfl⟩ := hrel
      by_cases hlt : i < l.length
      · have t1 : decide ((i : Int) < (l.length : Int)) = true := decide_eq_true (by omega)
        have t2 : decide (i < l.length) = true := decide_eq_true hlt
        have t3 : (i : Int) < (l.length : Int) := by omega
        have HI := Aside.mk hlt
        obtain ⟨u, hu, hul, hur⟩ := HAT.out i hlt
        obtain ⟨a0, rfl, hx⟩ := num_at HN.out i hlt hlt
        rw [hu] at hx
        have HC := Aside.mk (HIH.out u hul hur wr HB.out)
        have HLE := Aside.mk (show dep up k u ≤ k from dep_le up k u)
        have e1 : IntKind.i64.wrap (((dep up k u : Nat) : Int) + 1) = ((dep up k u + 1 : Nat) : Int) := by rw [IntKind.wrap_i64]; have := HK.out; have := HLE.out; omega
        have e2 := mx_nat (depL (dep up k) (l.take i)) (dep up k u)
        have HS := Aside.mk (show depL (dep up k) (l.take (i + 1)) = max (depL (dep up k) (l.take i)) (dep up k u + 1) by rw [List.take_succ_eq_append_getElem hlt, depL_snoc, hu]; rfl)
        have ew := i1 (show i < 4611686018427387904 by have := HL20.out; omega)
        clear hi hlt hul hur hu
        go_wp2_with (first | (go_at_call 39; refine HC.out.mono ?_; rintro e w2 ⟨rfl, rfl⟩))
        go_roundw
        case rel => exact ⟨i + 1, HI.out, by first | rfl | simp, congrArg (Value.int .i64) (by rw [HS.out, ← mx_nat]; rfl), by trivial⟩
        case measure =>
          have := HI.out
          have e9 : ((i : Int) + 1).toNat = i + 1 := by omega
          simp only [intOf, e9, Int.toNat_natCast]
          omega
      · have t1 : decide ((i : Int) < (l.length : Int)) = false := decide_eq_false (by omega)
        have t2 : decide (i < l.length) = false := decide_eq_false hlt
        obtain rfl : i = l.length := by omega
        rw [List.take_length]
        clear hlt hi
        go_wp2
        go_ret
        exact ⟨by rw [HD.out]; rfl, rfl⟩

theorem depth_ok {w : World} {A : Option Addr} {C : Nat} {up : List (List Int)} (h : Gv w A C up) (c : Nat) (h0 : checkG up = 0) (h2 : c < up.length) :
    Calls Tryd.prog 24 #[.slice A up.length C, .int .i64 c] w fun e w' => e = .returned (.int .i64 (depth up c)) ∧ Below w.heap.size w w' := by
  have H := Aside.mk (there_ok h (c : Int) h0 (by omega) (by omega))
  have hf := fine_of h0
  have HA := Aside.mk (fun w' (b : Below w.heap.size w w') => depthR h hf 7 c (by omega) h2 (by have := rank_five hf h2; omega) w' b)
  clear h h0 h2
  go_enter Tryd.func24, Tryd.ntmps24
  go_wp2_with (first | (go_at_call 33; refine H.out.mono ?_; rintro e w' ⟨rfl, hb⟩; have HB := Aside.mk hb; clear hb) | (go_at_call 39; refine (HA.out _ HB.out).mono ?_; rintro e w2 ⟨rfl, rfl⟩))
  go_ret
  exact ⟨rfl, HB.out⟩
theorem mask_succ (p : Nat → Bool) (i : Nat) : mask p (i + 1) = if p i = true then mask p i ||| 2 ^ i else mask p i := by
  apply Nat.eq_of_testBit_eq
  intro x
  rw [mask_bit]
  split
  · next h =>
    rw [or_bit, mask_bit]
    by_cases e : i = x
    · subst e; simp [h]
    · have : decide (x < i + 1) = decide (x < i) := by by_cases hx : x < i <;> simp [hx] <;> omega
      rw [this]; simp [e]
  · next h =>
    rw [mask_bit]
    by_cases e : i = x
    · subst e; simp [h]
    · have : decide (x < i + 1) = decide (x < i) := by by_cases hx : x < i <;> simp [hx] <;> omega
      rw [this]
def belowN (up : List (List Int)) (c : Nat) : Nat := mask (fun x => reachB up x c) up.length
theorem mask64 (p : Nat → Bool) {i : Nat} (h : i ≤ 6) : mask p i < 64 := by
  have h1 := mask_lt p i
  have h2 : 2 ^ i ≤ 2 ^ 6 := Nat.pow_le_pow_right (by omega) h
  omega
set_option maxHeartbeats 4000000 in
theorem below_ok {w : World} {A : Option Addr} {C : Nat} {up : List (List Int)} (h : Gv w A C up) (c : Nat) (h0 : checkG up = 0) (h2 : c < up.length) :
    Calls Tryd.prog 16 #[.slice A up.length C, .int .i64 c] w fun e w' => e = .returned (.int .u64 (belowN up c)) ∧ Below w.heap.size w w' := by
  have H := Aside.mk (there_ok h (c : Int) h0 (by omega) (by omega))
  have HF := Aside.mk (fine_of h0)
  have HA := Aside.mk (fun (i : Nat) (hi : i < up.length) w' (b : Below w.heap.size w w') => above w' A C up (fine_of h0).good i hi (h.below b).rd)
  have HC := Aside.mk h2
  clear h h0 h2
  go_enter Tryd.func16, Tryd.ntmps16
  go_wp2_with (go_at_call 33; refine H.out.mono ?_; rintro e w' ⟨rfl, hb⟩; have HB0 := Aside.mk hb; clear hb)
  go_loopw [5, 14] (fun v x wr => ∃ i : Nat, i ≤ up.length ∧ x = .int .i64 i ∧ v = .int .u64 ((mask (fun x => reachB up x c) i : Nat) : Int) ∧ Aside (Below w.heap.size w wr)) (fun _ x _ => up.length - (intOf x).toNat)
  case atStart => exact ⟨0, Nat.zero_le _, rfl, rfl, HB0⟩
  case round =>
    obtain ⟨i, hi, rfl, rfl, HB⟩ := hrel
    by_cases hlt : i < up.length
    · have t1 : decide ((i : Int) < (up.length : Int)) = true := decide_eq_true (by omega)
      have t2 : decide (i < up.length) = true := decide_eq_true hlt
      have HI := Aside.mk hlt
      have h64 := Aside.mk (mask64 (fun x => reachB up x c) (show i ≤ 6 by have := HF.out.n6; omega))
      have HS := Aside.mk (mask_succ (fun x => reachB up x c) i)
      have ew := i1 (show i < 4611686018427387904 by have := HF.out.n6; omega)
      have HBIT := Aside.mk (show (aboveN up i).testBit c = reachB up i c by rw [aboveN_bit, decide_eq_true (by have := HC.out; have := HF.out.n6; omega), Bool.true_and])
      obtain ⟨m, hm⟩ : ∃ m, mask (fun x => reachB up x c) i = m := ⟨_, rfl⟩
      rw [hm] at h64 HS ⊢
      clear hi hlt hm
      cases hp : reachB up i c with
      | true =>
        rw [hp] at HBIT
        have HS2 := Aside.mk (show mask (fun x => reachB up x c) (i + 1) = m ||| 2 ^ i by rw [HS.out, if_pos hp])
        clear hp
        go_wp2_with (first | (go_at_call 30; refine (HA.out i HI.out _ HB.out).mono ?_; rintro e w2 ⟨rfl, hb2⟩; have HB2 := Aside.mk (HB.out.trans (hb2.mono HB.out.size)); clear hb2) | (go_at_call 13; refine (hasG _ c _ (aboveN_lt up i) (by have := HC.out; have := HF.out.n6; omega)).mono ?_; rw [HBIT.out]; rintro e w3 ⟨rfl, rfl⟩) | (go_at_call 36; refine (withG m i _ h64.out (by have := HI.out; have := HF.out.n6; omega)).mono ?_; rintro e w4 ⟨rfl, rfl⟩))
        go_roundw
        case rel => exact ⟨i + 1, HI.out, by first | rfl | simp, by rw [HS2.out], HB2⟩
        case measure =>
          have := HI.out
          have e9 : ((i : Int) + 1).toNat = i + 1 := by omega
          simp only [intOf, e9, Int.toNat_natCast]
          omega
      | false =>
        rw [hp] at HBIT
        have HS2 := Aside.mk (show mask (fun x => reachB up x c) (i + 1) = m by rw [HS.out, if_neg (by rw [hp]; decide)])
        clear hp
        go_wp2_with (first | (go_at_call 30; refine (HA.out i HI.out _ HB.out).mono ?_; rintro e w2 ⟨rfl, hb2⟩; have HB2 := Aside.mk (HB.out.trans (hb2.mono HB.out.size)); clear hb2) | (go_at_call 13; refine (hasG _ c _ (aboveN_lt up i) (by have := HC.out; have := HF.out.n6; omega)).mono ?_; rw [HBIT.out]; rintro e w3 ⟨rfl, rfl⟩))
        go_roundw
        case rel => exact ⟨i + 1, HI.out, by first | rfl | simp, by rw [HS2.out], HB2⟩
        case measure =>
          have := HI.out
          have e9 : ((i : Int) + 1).toNat = i + 1 := by omega
          simp only [intOf, e9, Int.toNat_natCast]
          omega
    · have t1 : decide ((i : Int) < (up.length : Int)) = false := decide_eq_false (by omega)
      have t2 : decide (i < up.length) = false := decide_eq_false hlt
      obtain rfl : i = up.length := by omega
      clear hlt hi
      go_wp2
      go_ret
      exact ⟨rfl, HB.out⟩
/-! ### ends -/
def namedB (up : List (List Int)) (i x : Nat) : Bool := (List.range i).any fun r => edge up r x
theorem named_succ (up : List (List Int)) (i x : Nat) : namedB up (i + 1) x = (namedB up i x || edge up i x) := by
  unfold namedB; rw [List.range_succ, List.any_append]; simp
def FreeAt (up : List (List Int)) (i : Nat) (l : List Int) (m : Nat) : Prop := m < 64 ∧ ∀ x, x < 6 → m.testBit x = (decide (x < up.length) && !(namedB up i x || l.contains (x : Int)))
theorem free_start : ∀ n, n < 7 → 2 ^ n - 1 < 64 ∧ ∀ x, x < 6 → (2 ^ n - 1).testBit x = decide (x < n) := by decide +kernel
theorem FreeAt.row {up : List (List Int)} {i m : Nat} (h : FreeAt up i (up.getD i []) m) : FreeAt up (i + 1) [] m := ⟨h.1, fun x hx => by rw [h.2 x hx, named_succ]; unfold edge; simp⟩
theorem FreeAt.num {up : List (List Int)} {i m u : Nat} {l : List Int} (h : FreeAt up i l m) (hu : u < 6) : FreeAt up i (l ++ [(u : Int)]) (clr1 m u) := by
  obtain ⟨h1, h2⟩ := clr1_lt m h.1 u hu
  refine ⟨h1, fun x hx => ?_⟩
  rw [h2 x hx, h.2 x hx]
  by_cases e : u = x
  · subst e; simp
  · have : ¬ (u : Int) = (x : Int) := by omega
    have h3 : ¬ (x : Int) = (u : Int) := by omega
    simp [e, this, h3, List.contains_append, Bool.or_assoc]
def endsI (up : List (List Int)) : List Int := pick (fun x => !namedB up up.length x) up.length
theorem memI_pick (m : Nat) : memI m = pick m.testBit 6 := by
  unfold memI memF pick
  simp
theorem ends_mem {up : List (List Int)} {m : Nat} (h6 : up.length ≤ 6) (h : FreeAt up up.length [] m) : memI m = endsI up := by
  rw [memI_pick, endsI, pick_congr (q := fun x => decide (x < up.length) && !namedB up up.length x) (fun x hx => by rw [h.2 x hx]; simp), pick_six h6 (fun x h1 _ => by rw [decide_eq_false (by omega)]; rfl)]
  exact pick_congr (fun x hx => by rw [decide_eq_true hx]; rfl)
set_option maxHeartbeats 4000000 in
theorem ends_ok {w : World} {A : Option Addr} {C : Nat} {up : List (List Int)} (h : Gv w A C up) (hc : checkG up = 0) (hT : Tabled w) :
    Calls Tryd.prog 11 #[.slice A up.length C] w fun e w' => ∃ A' c', e = .returned (.slice A' (endsI up).length c') ∧ (endsI up).length ≤ c' ∧ Kd.C (Kd.int .i64) w' A' (endsI up).length (endsI up) ∧ Below w.heap.size w w' := by
  have h1 : (checkG up != 0) = false := by simpa using hc
  have HF := Aside.mk (fine_of hc)
  have H := Aside.mk (check8 h)
  have HG := Aside.mk h
  have HT := Aside.mk hT
  have HFU := Aside.mk (full up.length HF.out.n6)
  clear hc h hT
  go_enter Tryd.func11, Tryd.ntmps11
  go_wp2_with (first | (go_at_call 8; refine H.out.mono ?_; rintro e w' ⟨rfl, hb⟩; have HB0 := Aside.mk hb; clear hb) | (go_at_call 31; refine (HFU.out _).mono ?_; rintro e w2 ⟨rfl, rfl⟩))
  go_loopw [3, 16] (fun v x wr => ∃ i m : Nat, i ≤ up.length ∧ x = .int .i64 i ∧ v = .int .u64 m ∧ Aside (FreeAt up i [] m) ∧ Aside (Below w.heap.size w wr)) (fun _ x _ => up.length - (intOf x).toNat)
  case atStart => exact ⟨0, 2 ^ up.length - 1, Nat.zero_le _, rfl, rfl, ⟨by
    obtain ⟨h1, h2⟩ := free_start up.length (by have := HF.out.n6; omega)
    exact ⟨h1, fun x hx => by rw [h2 x hx]; simp [namedB]⟩⟩, HB0⟩
  case round =>
    obtain ⟨i, m, hi, rfl, rfl, HFR, HB⟩ := hrel
    clear h1
    by_cases hlt : i < up.length
    · have t1 : decide ((i : Int) < (up.length : Int)) = true := decide_eq_true (by omega)
      have t2 : decide (i < up.length) = true := decide_eq_true hlt
      have t3 : (i : Int) < (up.length : Int) := by omega
      have HI := Aside.mk hlt
      obtain ⟨ad, A0, c0, rfl, hrow, hl0, hnum⟩ := row_at HG.out.rd i hlt
      have hroww : wr.cell? (ad.add i) = some (.slice A0 (up.getD i []).length c0) := (HB.out.cell (World.block_lt_of_cell? _ _ hrow)).trans hrow
      have HAT := Aside.mk (fun j (hj : j < (up.getD i []).length) => rowAt HF.out hlt hj)
      obtain ⟨l, hL⟩ : ∃ l, up.getD i [] = l := ⟨_, rfl⟩
      have HL20 := Aside.mk (show l.length ≤ 20 by rw [← hL]; exact HG.out.sm.at i)
      rw [hL] at hroww hnum HAT
      have HLe := Aside.mk hL
      have HN := Aside.mk (Kd.C_below hnum HB.out)
      clear hrow hl0 hnum hL hi hlt
      have ew := i1 (show i < 4611686018427387904 by have := HI.out; have := HF.out.n6; omega)
      go_wp2_with fail
      clear hroww t1 t2 t3
      go_loopw [3, 22] (fun v x wr2 => ∃ j m : Nat, j ≤ l.length ∧ x = .int .i64 j ∧ v = .int .u64 m ∧ Aside (FreeAt up i (l.take j) m) ∧ wr2 = wr) (fun _ x _ => l.length - (intOf x).toNat)
      case atStart => exact ⟨0, m, Nat.zero_le _, rfl, rfl, HFR, rfl⟩
      case round =>
        clear HFR
        obtain ⟨j, m, hj, rfl, rfl, HFR, rfl⟩ := hrel
        by_cases hlt : j < l.length
        · have t1 : decide ((j : Int) < (l.length : Int)) = true := decide_eq_true (by omega)
          have t2 : decide (j < l.length) = true := decide_eq_true hlt
          have t3 : (j : Int) < (l.length : Int) := by omega
          have HJ := Aside.mk hlt
          obtain ⟨u, hu, hul, hue⟩ := HAT.out j hlt
          obtain ⟨a0, rfl, hx⟩ := num_at HN.out j hlt hlt
          rw [hu] at hx
          have HU6 := Aside.mk (show u < 6 by have := HF.out.n6; omega)
          have HFN := Aside.mk (show FreeAt up i (l.take (j + 1)) (clr1 m u) by rw [List.take_succ_eq_append_getElem hlt, hu]; exact HFR.out.num HU6.out)
          have ej := i1 (show j < 4611686018427387904 by have := HL20.out; omega)
          clear hj hlt hu hul hue
          go_wp2_with (go_at_call 32; refine (without m u _ HFR.out.1 HU6.out).mono ?_; rintro e w3 ⟨rfl, rfl⟩)
          go_roundw
          case rel => exact ⟨j + 1, _, HJ.out, by first | rfl | simp, rfl, HFN, by trivial⟩
          case measure =>
            have := HJ.out
            have e9 : ((j : Int) + 1).toNat = j + 1 := by omega
            simp only [intOf, e9, Int.toNat_natCast]
            omega
        · have t1 : decide ((j : Int) < (l.length : Int)) = false := decide_eq_false (by omega)
          have t2 : decide (j < l.length) = false := decide_eq_false hlt
          obtain rfl : j = l.length := by omega
          have HFN := Aside.mk (show FreeAt up (i + 1) [] m from FreeAt.row (by have := HFR.out; rw [List.take_length, ← HLe.out] at this; exact this))
          clear hlt hj HFR
          go_wp2
          go_roundw
          case rel => exact ⟨i + 1, m, HI.out, by first | rfl | simp, rfl, HFN, HB⟩
          case measure =>
            have := HI.out
            have e9 : ((i : Int) + 1).toNat = i + 1 := by omega
            simp only [intOf, e9, Int.toNat_natCast]
            omega
    · have t1 : decide ((i : Int) < (up.length : Int)) = false := decide_eq_false (by omega)
      have t2 : decide (i < up.length) = false := decide_eq_false hlt
      obtain rfl : i = up.length := by omega
      clear hlt hi
      go_wp2_with (go_at_call 14; refine (list_calls m HFR.out.1 _ (HT.out.below HB.out)).mono ?_; rintro e w5 ⟨A5, c5, rfl, h51, h52, hb5⟩; have HB5 := Aside.mk (HB.out.trans (hb5.mono HB.out.size)); have H51 := Aside.mk h51; have H52 := Aside.mk h52; clear h51 h52 hb5)
      go_ret
      have e := ends_mem HF.out.n6 HFR.out
      rw [← e]
      exact ⟨A5, c5, rfl, H51.out, H52.out, HB5.out⟩
end Go.Proofs.YtkakgmpcenfjlaaDoor.Graph
