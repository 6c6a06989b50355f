/- EventWords, walked: each word finds what it is of, any other text nothing: the call returns true. -/
import Derived.Test.YtjaiodlfgpndoaaLive
import Derived.LoopTactic
set_option linter.unusedVariables false
set_option linter.unusedSimpArgs false
namespace Go.Proofs.Ytjaiodlfgpndoaa.Words
open Go.RowKit Go.Proofs.Ytjaiodlfgpndoaa.Wide
theorem kindOf_congr {s t : ByteArray} (h : s.toList = t.toList) : kindOf s = kindOf t := by unfold kindOf; rw [h]
theorem opOf_congr {s t : ByteArray} (h : s.toList = t.toList) : opOf s = opOf t := by unfold opOf; rw [h]
theorem kind_back {i : Int} (h1 : 1 ≤ i) (h2 : i ≤ 7) : kindOf (kindWord i) = i := by
  have : i = 1 ∨ i = 2 ∨ i = 3 ∨ i = 4 ∨ i = 5 ∨ i = 6 ∨ i = 7 := by omega
  rcases this with rfl | rfl | rfl | rfl | rfl | rfl | rfl <;> decide +kernel
theorem op_back {i : Int} (h1 : 1 ≤ i) (h2 : i ≤ 6) : opOf (opWord i) = i := by
  have : i = 1 ∨ i = 2 ∨ i = 3 ∨ i = 4 ∨ i = 5 ∨ i = 6 := by omega
  rcases this with rfl | rfl | rfl | rfl | rfl | rfl <;> decide +kernel
theorem op_full {i : Int} (h1 : 1 ≤ i) (h2 : i ≤ 6) : (opWord i).toList.isEmpty = false := by
  have : i = 1 ∨ i = 2 ∨ i = 3 ∨ i = 4 ∨ i = 5 ∨ i = 6 := by omega
  rcases this with rfl | rfl | rfl | rfl | rfl | rfl <;> decide +kernel
theorem opWord_7 : (opWord 7).toList = [] := by decide +kernel
theorem kind_of (s : ByteArray) : ((kindWord (kindOf s)).toList == s.toList) = true ∨ kindOf s = 0 := by
  unfold kindOf
  repeat' split
  all_goals first | (right; rfl) | (left; rename_i h; rw [← eq_of_beq h]; decide +kernel)
theorem op_of (s : ByteArray) : ((opWord (opOf s)).toList == s.toList) = true ∨ opOf s = 0 := by
  unfold opOf
  repeat' split
  all_goals first | (right; rfl) | (left; rename_i h; rw [← eq_of_beq h]; decide +kernel)
/-- What the round at j is told. -/
inductive Told (s : ByteArray) (j : Int) : Prop where
  | low (a b : Bool) (ha : ((kindWord j).toList == s.toList) = a) (hb : ((opWord j).toList == s.toList) = b) (h7 : decide (j < 7) = true) (ho : opOf (opWord j) = j) (ka : a = true → (kindOf s != j) = false) (kb : b = true → s.toList.isEmpty = false ∧ (opOf s != j) = false)
  | top (a b : Bool) (ha : ((kindWord j).toList == s.toList) = a) (hb : ((opWord j).toList == s.toList) = b) (h7 : decide (j < 7) = false) (ka : a = true → (kindOf s != j) = false) (kb : b = true → s.toList.isEmpty = true)
theorem told (s : ByteArray) (j : Int) (h1 : 1 ≤ j) (h2 : j ≤ 7) : Told s j := by
  have ka : ∀ a, ((kindWord j).toList == s.toList) = a → a = true → (kindOf s != j) = false := fun a ha e => by
    subst e
    rw [kindOf_congr (eq_of_beq ha).symm, kind_back h1 h2]; simp
  by_cases h : j < 7
  · refine .low _ _ rfl rfl (by simpa using h) (op_back h1 (by omega)) (ka _ rfl) fun e => ?_
    have e := (eq_of_beq e).symm
    exact ⟨by rw [e]; exact op_full h1 (by omega), by rw [opOf_congr e, op_back h1 (by omega)]; simp⟩
  · obtain rfl : j = 7 := by omega
    exact .top _ _ rfl rfl (by simp) (ka _ rfl) fun e => by rw [← eq_of_beq e, opWord_7]; rfl
set_option maxHeartbeats 4000000 in
set_option maxRecDepth 100000 in
theorem walkWords (n : Int) (s : ByteArray) (w : World) : Calls Try.prog 7 #[.int .i64 n, .string s] w fun e w' => e = .returned (.bool true) ∧ Grew w w' := by
  have HG := Aside.mk (Grew.refl w)
  go_enter Try.func7, Try.ntmps7
  go_upto_region 1 with (fail)
  go_cut [19] (fun v wc => v = .bool false ∧ Aside (Grew w wc))
  case first =>
    go_wp2_with (first | (go_at_call 31; refine (kindWord_any _ _).mono ?_; rintro e w1 ⟨rfl, hb1⟩) | (go_at_call 32; refine (kindRef_any _ _).mono ?_; rintro e w2 ⟨rfl, hb2⟩) | (go_at_call 33; refine (opWord_any _ _).mono ?_; rintro e w3 ⟨rfl, hb3⟩) | (go_at_call 34; refine (opRef_any _ _).mono ?_; rintro e w4 ⟨rfl, hb4⟩) | (go_at_call 35; refine (kindOf_any _ _).mono ?_; rintro e w5 ⟨rfl, hb5⟩) | (go_at_call 36; refine (opOf_any _ _).mono ?_; rintro e w6 ⟨rfl, hb6⟩))
    go_meet
    case rel => exact ⟨rfl, by (first | refine Aside.mk ?_ | skip); repeat (first | exact HG.out | refine Grew.trans ?_ (by assumption))⟩
  case rest =>
    obtain ⟨rfl, HG⟩ := hcut
    go_upto_region 4 with (first | (go_at_call 31; refine (kindWord_any _ _).mono ?_; rintro e w1 ⟨rfl, hb1⟩) | (go_at_call 32; refine (kindRef_any _ _).mono ?_; rintro e w2 ⟨rfl, hb2⟩) | (go_at_call 33; refine (opWord_any _ _).mono ?_; rintro e w3 ⟨rfl, hb3⟩) | (go_at_call 34; refine (opRef_any _ _).mono ?_; rintro e w4 ⟨rfl, hb4⟩) | (go_at_call 35; refine (kindOf_any _ _).mono ?_; rintro e w5 ⟨rfl, hb5⟩) | (go_at_call 36; refine (opOf_any _ _).mono ?_; rintro e w6 ⟨rfl, hb6⟩))
    have HG1 := Aside.mk (show Grew w _ from (by repeat (first | exact HG.out | refine Grew.trans ?_ (by assumption))))
    (try simp only [Act.put, List.setIfInBounds_toArray, List.set_cons_zero, List.set_cons_succ])
    go_cut [41] (fun v wc => v = .bool false ∧ Aside (Grew w wc))
    case first =>
      obtain ⟨a, ha⟩ : ∃ a, ((kindWord (kindOf s)).toList == s.toList) = a := ⟨_, rfl⟩
      obtain ⟨c, hc⟩ : ∃ c, ((opWord (opOf s)).toList == s.toList) = c := ⟨_, rfl⟩
      have hka : a = true ∨ (kindOf s != 0) = false := by rw [← ha]; exact (kind_of s).imp id (fun h => by rw [h]; rfl)
      have hoc : c = true ∨ (opOf s != 0) = false := by rw [← hc]; exact (op_of s).imp id (fun h => by rw [h]; rfl)
      cases a <;> cases c
      all_goals
        (try (have h0 := hka.resolve_left (by decide)))
        (try (have h1 := hoc.resolve_left (by decide)))
        clear hka hoc
        go_wp2_with (first | (go_at_call 31; refine (kindWord_any _ _).mono ?_; rintro e w1 ⟨rfl, hb1⟩) | (go_at_call 32; refine (kindRef_any _ _).mono ?_; rintro e w2 ⟨rfl, hb2⟩) | (go_at_call 33; refine (opWord_any _ _).mono ?_; rintro e w3 ⟨rfl, hb3⟩) | (go_at_call 34; refine (opRef_any _ _).mono ?_; rintro e w4 ⟨rfl, hb4⟩) | (go_at_call 35; refine (kindOf_any _ _).mono ?_; rintro e w5 ⟨rfl, hb5⟩) | (go_at_call 36; refine (opOf_any _ _).mono ?_; rintro e w6 ⟨rfl, hb6⟩))
        go_meet
        case rel => exact ⟨rfl, by (first | refine Aside.mk ?_ | skip); repeat (first | exact HG1.out | refine Grew.trans ?_ (by assumption))⟩
    case rest =>
      obtain ⟨rfl, HG⟩ := hcut
      clear HG1
      go_wp2
      go_loopw [7] (fun i wr => ∃ j : Int, 1 ≤ j ∧ j ≤ 8 ∧ i = .int .i64 j ∧ Aside (Grew w wr)) (fun i _ => (8 - intOf i).toNat)
      case atStart => exact ⟨1, by omega, by omega, rfl, HG⟩
      case round =>
        clear HG
        obtain ⟨j, h1, h2, rfl, HG⟩ := hrel
        by_cases hlt : j < 8
        · have hd8 : decide (j < 8) = true := decide_eq_true hlt
          have hk := kind_back h1 (by omega)
          rcases told s j h1 (by omega) with ⟨a, b, ha, hb, h7, ho, ka, kb⟩ | ⟨a, b, ha, hb, h7, ka, kb⟩
          · cases a <;> cases b
            all_goals
              (try (have h3 := ka rfl))
              (try (obtain ⟨h4, h5⟩ := kb rfl))
              clear ka kb
              go_wp2_with (first | (go_at_call 31; refine (kindWord_any _ _).mono ?_; rintro e w1 ⟨rfl, hb1⟩) | (go_at_call 32; refine (kindRef_any _ _).mono ?_; rintro e w2 ⟨rfl, hb2⟩) | (go_at_call 33; refine (opWord_any _ _).mono ?_; rintro e w3 ⟨rfl, hb3⟩) | (go_at_call 34; refine (opRef_any _ _).mono ?_; rintro e w4 ⟨rfl, hb4⟩) | (go_at_call 35; refine (kindOf_any _ _).mono ?_; rintro e w5 ⟨rfl, hb5⟩) | (go_at_call 36; refine (opOf_any _ _).mono ?_; rintro e w6 ⟨rfl, hb6⟩))
              go_roundw
              case rel => exact ⟨j + 1, by omega, by omega, by go_num, by (first | refine Aside.mk ?_ | skip); repeat (first | exact HG.out | refine Grew.trans ?_ (by assumption))⟩
              case measure => simp [intOf]; omega
          · cases a <;> cases b
            all_goals
              (try (have h3 := ka rfl))
              (try (have h4 := kb rfl))
              clear ka kb
              go_wp2_with (first | (go_at_call 31; refine (kindWord_any _ _).mono ?_; rintro e w1 ⟨rfl, hb1⟩) | (go_at_call 32; refine (kindRef_any _ _).mono ?_; rintro e w2 ⟨rfl, hb2⟩) | (go_at_call 33; refine (opWord_any _ _).mono ?_; rintro e w3 ⟨rfl, hb3⟩) | (go_at_call 34; refine (opRef_any _ _).mono ?_; rintro e w4 ⟨rfl, hb4⟩) | (go_at_call 35; refine (kindOf_any _ _).mono ?_; rintro e w5 ⟨rfl, hb5⟩) | (go_at_call 36; refine (opOf_any _ _).mono ?_; rintro e w6 ⟨rfl, hb6⟩))
              go_roundw
              case rel => exact ⟨j + 1, by omega, by omega, by go_num, by (first | refine Aside.mk ?_ | skip); repeat (first | exact HG.out | refine Grew.trans ?_ (by assumption))⟩
              case measure => simp [intOf]; omega
        · have hd8 : decide (j < 8) = false := decide_eq_false hlt
          go_wp2_with (go_at_call 37; refine (QEv.live15 _).mono ?_; rintro e w7 ⟨rfl, hb7⟩)
          go_ret
          exact ⟨rfl, HG.out.trans hb7⟩
end Go.Proofs.Ytjaiodlfgpndoaa.Words
