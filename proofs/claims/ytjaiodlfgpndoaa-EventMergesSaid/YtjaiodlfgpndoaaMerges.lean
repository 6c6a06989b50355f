/- The walk of sakialaw15.EventMerges: for every input the call returns true, and what was in memory stays. -/
import Derived.Test.YtjaiodlfgpndoaaPlainRm
import Derived.Test.YtjaiodlfgpndoaaRMerge
import Derived.Test.YtjaiodlfgpndoaaRShift
import Derived.Test.YtjaiodlfgpndoaaLive
set_option linter.unusedVariables false
set_option linter.unusedSimpArgs false
namespace Go.Proofs.Ytjaiodlfgpndoaa.QEv
open Go.RowKit Go.Proofs.YtjaiodlfgpndoaaW.PrintWords Go.Proofs.YtjaiodlfgpndoaaW.PrintLast
theorem c_Merge (k : Nat) {A : Option Addr} {c : Nat} {l : List S56} {wd : Int} {r : List S56} {w : World} (hC : Kd.C k56 w A l.length l) (hc : l.length ≤ c) (h : event_Merge.f k wd l = some r) :
    Calls Try.prog 45 #[.int .i64 wd, .slice A l.length c] w fun e w' => ∃ A' c', e = .returned (.slice A' r.length c') ∧ r.length ≤ c' ∧ Kd.C k56 w' A' r.length r ∧ Below w.heap.size w w' :=
  (event_Merge.calls k wd A c l r w hC hc h).mono fun e w' ⟨v, he, hS, hb⟩ => by
    obtain ⟨A', c', rfl, h1, h2⟩ := Kd.S_reads hS
    exact ⟨A', c', he, h1, h2, hb⟩
theorem c_Shift (k : Nat) {A : Option Addr} {c : Nat} {l : List S56} {wd fr : Int} {r : List S56} {w : World} (hC : Kd.C k56 w A l.length l) (hc : l.length ≤ c) (h : event_Shift.f k wd fr l = some r) :
    Calls Try.prog 46 #[.int .i64 wd, .int .u64 fr, .slice A l.length c] w fun e w' => ∃ A' c', e = .returned (.slice A' r.length c') ∧ r.length ≤ c' ∧ Kd.C k56 w' A' r.length r ∧ Below w.heap.size w w' :=
  (event_Shift.calls k wd fr A c l r w hC hc h).mono fun e w' ⟨v, he, hS, hb⟩ => by
    obtain ⟨A', c', rfl, h1, h2⟩ := Kd.S_reads hS
    exact ⟨A', c', he, h1, h2, hb⟩
theorem c_rMerge (k : Nat) {A : Option Addr} {c : Nat} {l : List S56} {wd : Int} {r : List S56} {w : World} (hC : Kd.C k56 w A l.length l) (hc : l.length ≤ c) (h : sakiaref15_Merge.f k wd l = some r) :
    Calls Try.prog 47 #[.int .i64 wd, .slice A l.length c] w fun e w' => ∃ A' c', e = .returned (.slice A' r.length c') ∧ r.length ≤ c' ∧ Kd.C k56 w' A' r.length r ∧ Below w.heap.size w w' :=
  (sakiaref15_Merge.calls k wd A c l r w hC hc h).mono fun e w' ⟨v, he, hS, hb⟩ => by
    obtain ⟨A', c', rfl, h1, h2⟩ := Kd.S_reads hS
    exact ⟨A', c', he, h1, h2, hb⟩
theorem c_rShift {A : Option Addr} {c : Nat} {l : List S56} {wd fr : Int} {w : World} (hC : Kd.C k56 w A l.length l) (hc : l.length ≤ c) (hl : l.length ≤ 200) (hp : ∀ x ∈ l, 0 ≤ x.f4) (hf : 0 ≤ fr) :
    Calls Try.prog 48 #[.int .i64 wd, .int .u64 fr, .slice A l.length c] w fun e w' => ∃ A' c', e = .returned (.slice A' (shiftL wd fr l).length c') ∧ (shiftL wd fr l).length ≤ c' ∧ Kd.C k56 w' A' (shiftL wd fr l).length (shiftL wd fr l) ∧ Below w.heap.size w w' :=
  (sakiaref15_Shift.calls wd fr (fun k_ => k_ < w.heap.size) A c l w (Kd.V_mk hc (Kd.C_F k56_heap hC)) hl hp hf).mono fun e w' ⟨v, he, hS, hb⟩ => by
    obtain ⟨A', c', rfl, h1, h2⟩ := Kd.N_reads hS
    exact ⟨A', c', he, h1, h2, hb⟩
set_option maxHeartbeats 4000000 in
set_option maxRecDepth 100000 in
theorem walkMerges (wd fr : Int) (A : Option Addr) (c : Nat) (l : List S56) (w : World) (hC : Kd.C k56 w A l.length l) (hc : l.length ≤ c) (hp : ∀ x ∈ l, 0 ≤ x.f4) (hf : 0 ≤ fr) :
    Calls Try.prog 9 #[.int .i64 wd, .slice A l.length c, .int .u64 fr] w fun e w' => e = .returned (.bool true) ∧ Below w.heap.size w w' := by
  have HC := Aside0.mk hC
  have Hc := Aside0.mk hc
  have HP := Aside0.mk hp
  have HF := Aside0.mk hf
  clear hC hc hp hf
  obtain ⟨b, hb, hsm⟩ := long_ok l 1000 (Nat.le_refl _)
  have HB0 := Aside0.mk hb
  clear hb
  cases b with
  | true =>
    clear hsm
    go_enter Try.func9, Try.ntmps9
    go_wp2_with fail
    refine (sakialaw15_Long.calls 1000 A c l 200 true _ HC.out Hc.out HB0.out).mono ?_
    rintro e w1 ⟨rfl, ⟨nd, rfl⟩⟩
    go_wp2_with (go_at_call 37; refine (live15 _).mono ?_; rintro e w2 ⟨rfl, hb2⟩; have HB2 := Aside0.mk hb2; clear hb2)
    go_ret
    exact ⟨rfl, below_step (pw_below_drewN (Below.refl _ _) _) HB2.out⟩
  | false =>
    have HS := Aside0.mk (hsm rfl)
    clear hsm
    cases hw : Wide.rightW wd with
    | false =>
      have HW := Aside0.mk hw
      clear hw
      go_enter Try.func9, Try.ntmps9
      go_wp2_with fail
      refine (sakialaw15_Long.calls 1000 A c l 200 false _ HC.out Hc.out HB0.out).mono ?_
      rintro e w1 ⟨rfl, ⟨nd, rfl⟩⟩
      have HB1 := Aside0.mk (pw_below_drewN (Below.refl w.heap.size w) nd)
      generalize w.drewN nd = W1 at HB1 ⊢
      go_wp2_with fail
      refine (c_Merge 1000 (Kd.C_below HC.out HB1.out) Hc.out (merge_none wd l HW.out 1000)).mono ?_
      rintro e W2 ⟨A2, c2, rfl, hc2, hC2, hb2⟩
      have HB2 := Aside0.mk (below_step HB1.out hb2)
      clear hb2 hc2 hC2
      go_wp2_with fail
      refine (c_Shift 1000 (Kd.C_below HC.out HB2.out) Hc.out (shift_none wd fr l HW.out 1000)).mono ?_
      rintro e W3 ⟨A3, c3, rfl, hc3, hC3, hb3⟩
      have HB3 := Aside0.mk (below_step HB2.out hb3)
      clear hb3 hc3 hC3
      go_wp2_with fail
      refine (Wide.rright wd _).mono ?_
      rw [HW.out]
      rintro e W4 ⟨rfl, rfl⟩
      go_wp2_with (go_at_call 37; refine (live15 _).mono ?_; rintro e w2 ⟨rfl, hb2⟩; have HB4 := Aside0.mk (below_step HB3.out hb2); clear hb2)
      go_ret
      exact ⟨rfl, HB4.out⟩
    | true =>
      have HW := Aside0.mk hw
      clear hw
      have FT := HS.out.fit
      go_enter Try.func9, Try.ntmps9
      go_wp2_with fail
      refine (sakialaw15_Long.calls 1000 A c l 200 false _ HC.out Hc.out HB0.out).mono ?_
      rintro e w1 ⟨rfl, ⟨nd, rfl⟩⟩
      have HB1 := Aside0.mk (pw_below_drewN (Below.refl w.heap.size w) nd)
      generalize w.drewN nd = W1 at HB1 ⊢
      go_wp2_with fail
      refine (c_Merge 1000 (Kd.C_below HC.out HB1.out) Hc.out (merge_ok wd l FT HW.out 1000 (Nat.le_refl _))).mono ?_
      rintro e W2 ⟨A2, c2, rfl, hc2, hC2, hb2⟩
      have HB2 := Aside0.mk (below_step HB1.out hb2)
      have Hc2 := Aside0.mk hc2
      have HC2 := Aside0.mk hC2
      clear hb2 hc2 hC2
      go_wp2_with fail
      refine (c_Shift 1000 (Kd.C_below HC.out HB2.out) Hc.out (shift_ok wd fr l HS.out HW.out 1000 (Nat.le_refl _))).mono ?_
      rintro e W3 ⟨A3, c3, rfl, hc3, hC3, hb3⟩
      have HB3 := Aside0.mk (below_step HB2.out hb3)
      have Hc3 := Aside0.mk hc3
      have HC3 := Aside0.mk hC3
      have HC2b := Aside0.mk (Kd.C_below HC2.out hb3)
      clear hb3 hc3 hC3 HC2
      go_wp2_with fail
      refine (Wide.rright wd _).mono ?_
      rw [HW.out]
      rintro e W4 ⟨rfl, rfl⟩
      go_wp2_with fail
      refine (c_rMerge 1000 (Kd.C_below HC.out HB3.out) Hc.out (rmerge_ok wd l FT 1000 (Nat.le_refl _))).mono ?_
      rintro e W5 ⟨A5, c5, rfl, hc5, hC5, hb5⟩
      have HB5 := Aside0.mk (below_step HB3.out hb5)
      have Hc5 := Aside0.mk hc5
      have HC5 := Aside0.mk hC5
      have HC2c := Aside0.mk (Kd.C_below HC2b.out hb5)
      have HC3b := Aside0.mk (Kd.C_below HC3.out hb5)
      clear hb5 hc5 hC5 HC2b HC3
      go_wp2_with fail
      refine (sakiaref15_Same.calls 30000 A2 c2 (mergeL wd l) A5 c5 (mergeL wd l) true _ HC2c.out Hc2.out HC5.out Hc5.out (rself_ok _ (FT.merge wd) 30000 (Nat.le_refl _))).mono ?_
      rintro e W6 ⟨rfl, hb6⟩
      have HB6 := Aside0.mk (below_step HB5.out hb6)
      have HC2d := Aside0.mk (Kd.C_below HC2c.out hb6)
      have HC3c := Aside0.mk (Kd.C_below HC3b.out hb6)
      clear hb6 HC2c HC3b HC5
      go_wp2_with fail
      refine (c_Merge 1000 HC2d.out Hc2.out (by rw [merge_ok wd _ (FT.merge wd) HW.out 1000 (Nat.le_refl _), merge_idem wd _ l rfl])).mono ?_
      rintro e W7 ⟨A7, c7, rfl, hc7, hC7, hb7⟩
      have HB7 := Aside0.mk (below_step HB6.out hb7)
      have Hc7 := Aside0.mk hc7
      have HC7 := Aside0.mk hC7
      have HC2e := Aside0.mk (Kd.C_below HC2d.out hb7)
      have HC3d := Aside0.mk (Kd.C_below HC3c.out hb7)
      clear hb7 hc7 hC7 HC2d HC3c
      go_wp2_with fail
      refine (sakiaref15_Same.calls 30000 A7 c7 (mergeL wd l) A2 c2 (mergeL wd l) true _ HC7.out Hc7.out HC2e.out Hc2.out (rself_ok _ (FT.merge wd) 30000 (Nat.le_refl _))).mono ?_
      rintro e W8 ⟨rfl, hb8⟩
      have HB8 := Aside0.mk (below_step HB7.out hb8)
      have HC3e := Aside0.mk (Kd.C_below HC3d.out hb8)
      clear hb8 HC2e HC7 HC3d
      go_wp2_with fail
      refine (c_rShift (Kd.C_below HC.out HB8.out) Hc.out HS.out.1 HP.out HF.out).mono ?_
      rintro e W9 ⟨A9, c9, rfl, hc9, hC9, hb9⟩
      have HB9 := Aside0.mk (below_step HB8.out hb9)
      have Hc9 := Aside0.mk hc9
      have HC9 := Aside0.mk hC9
      have HC3f := Aside0.mk (Kd.C_below HC3e.out hb9)
      clear hb9 hc9 hC9 HC3e
      go_wp2_with fail
      refine (sakiaref15_Same.calls 30000 A3 c3 (shiftL wd fr l) A9 c9 (shiftL wd fr l) true _ HC3f.out Hc3.out HC9.out Hc9.out (rself_ok _ (shift_fit wd fr l FT) 30000 (Nat.le_refl _))).mono ?_
      rintro e W10 ⟨rfl, hb10⟩
      have HB10 := Aside0.mk (below_step HB9.out hb10)
      clear hb10 HC3f HC9
      go_wp2_with (go_at_call 37; refine (live15 _).mono ?_; rintro e w2 ⟨rfl, hb2⟩; have HB11 := Aside0.mk (below_step HB10.out hb2); clear hb2)
      go_ret
      exact ⟨rfl, HB11.out⟩
end Go.Proofs.Ytjaiodlfgpndoaa.QEv
