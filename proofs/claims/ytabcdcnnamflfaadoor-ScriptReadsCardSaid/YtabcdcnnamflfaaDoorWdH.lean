/- The laws WordsSplits and WordsBack: walked. Asked: the library's variables lie as laid. -/
import Derived.Test.YtabcdcnnamflfaaDoorWdG
set_option linter.unusedVariables false
set_option linter.unusedSimpArgs false
set_option maxRecDepth 100000
namespace Go.Proofs.YtabcdcnnamflfaaDoor.Wd
open Go.RowKit Go.Proofs.YtabcdcnnamflfaaDoorW.PrintWords Go.Proofs.YtabcdcnnamflfaaDoorW.PrintLast Go.Proofs.YtabcdcnnamflfaaDoorW.PrintMore
/-! ### answers in one form -/
def linesAns (s : List UInt8) : Nat × Nat × List (List UInt8) := if 65536 < s.length then (0, 21, []) else match linesOf s with
  | (none, k) => (k, 20, [])
  | (some ls, _) => (0, 0, ls)
theorem sp_drop (s : List UInt8) : (sp 10 s).dropLast.length ≤ s.length := by
  have := sp_count 10 s
  rw [List.length_dropLast]; omega
theorem lines_some {s : List UInt8} {ls : List (List UInt8)} {k : Nat} (h : linesOf s = (some ls, k)) : ls.length ≤ s.length := by
  unfold linesOf at h
  split at h
  · cases h
  · split at h
    · injection h with h _
      injection h with h
      subst h
      exact sp_drop s
    · cases h
theorem LinesRes.norm {base : Nat} {s : ByteArray} {e : Ending} {w' : World} (h : LinesRes base s e w') : ∃ A c, e = .returned (.tuple #[.slice A (linesAns s.data.toList).2.2.length c, .int .i64 ((linesAns s.data.toList).1 : Nat), .int .i64 ((linesAns s.data.toList).2.1 : Nat)]) ∧ Txts w' A (linesAns s.data.toList).2.2 ∧ (linesAns s.data.toList).2.2.length ≤ 1000001 := by
  rcases h with ⟨h1, rfl⟩ | ⟨h1, k, h2, rfl⟩ | ⟨h1, ls, v, h2, hO, rfl⟩
  · have e : linesAns s.data.toList = (0, 21, []) := by unfold linesAns; rw [if_pos (by rw [size_len]; exact h1)]
    rw [e]
    exact ⟨none, 0, rfl, fun h => absurd rfl h, by simp⟩
  · have e : linesAns s.data.toList = (k, 20, []) := by unfold linesAns; rw [if_neg (by rw [size_len]; omega), h2]
    rw [e]
    exact ⟨none, 0, rfl, fun h => absurd rfl h, by simp⟩
  · have e : linesAns s.data.toList = (0, 0, ls) := by unfold linesAns; rw [if_neg (by rw [size_len]; omega), h2]
    have hl := lines_some h2
    rw [size_len] at hl
    rw [e]
    rcases hO.form with ⟨rfl, A, c, rfl⟩ | ⟨g, cap, rfl, hc, _, ht, _⟩
    · exact ⟨A, c, rfl, fun h => absurd rfl h, by simp⟩
    · exact ⟨_, cap, rfl, ht, by show ls.length ≤ _; omega⟩
theorem Own.reads {w : World} {base : Nat} {v : Value} {xs : List (List UInt8)} (h : Own w base v xs) : ∃ A c, v = .slice A xs.length c ∧ Txts w A xs := by
  rcases h.form with ⟨rfl, A, c, rfl⟩ | ⟨g, cap, rfl, hc, _, ht, _⟩
  · exact ⟨A, c, rfl, fun h => absurd rfl h⟩
  · exact ⟨_, cap, rfl, ht⟩
theorem eqB (a : Nat) : (((a : Nat) : Int) != ((a : Nat) : Int)) = false := by simp
set_option maxHeartbeats 8000000 in
theorem walkSplits (s : ByteArray) (w : World) (hw : LibW w) :
    Calls Tryd.prog 3 #[.string s] w fun e w' => e = .returned (.bool true) ∧ Below w.heap.size w w' := by
  have HW := Aside.mk hw
  by_cases hbig : 70000 < s.size
  · have t1 : decide ((70000 : Int) < (s.size : Int)) = true := decide_eq_true (by omega)
    have t2 : decide (70000 < s.size) = true := decide_eq_true hbig
    have H := Aside.mk (live_ w hw)
    clear hw hbig
    go_enter Tryd.func3, Tryd.ntmps3
    go_wp2_with (go_at_call 11; refine H.out.mono ?_; rintro e w' ⟨rfl, hb⟩)
    go_ret
    exact ⟨rfl, hb⟩
  · have t1 : decide ((70000 : Int) < (s.size : Int)) = false := decide_eq_false (by omega)
    have t2 : decide (70000 < s.size) = false := decide_eq_false hbig
    have HS := Aside.mk (show s.size ≤ 1000000 by omega)
    clear hw hbig
    go_enter Tryd.func3, Tryd.ntmps3
    go_wp2_with fail
    refine (split_w s HS.out w HW.out).mono ?_
    rintro e w1 ⟨hsr, hb⟩
    have HSR := Aside.mk hsr
    have HB1 := Aside.mk hb
    clear hb t1 t2
    have hform : ∃ A c n k, e = .returned (.tuple #[.slice A n c, .int .i64 k]) := by
      rcases hsr with ⟨_, rfl⟩ | ⟨_, _, rfl⟩ | ⟨_, _, A, c, rfl, _⟩ <;> exact ⟨_, _, _, _, rfl⟩
    obtain ⟨A1, c1, n1, k1, rfl⟩ := hform
    clear hsr
    go_wp2_with fail
    refine (lines_w s HS.out w1 (HW.out.below HB1.out)).mono ?_
    rintro e w2 ⟨hlr, hb⟩
    obtain ⟨A2, c2, rfl, hT2, hN2⟩ := hlr.norm
    have HB2 := Aside.mk (HB1.out.trans (hb.mono HB1.out.size))
    have HT2 := Aside.mk hT2
    have HN2 := Aside.mk hN2
    have HB12 := Aside.mk hb
    clear hb hlr hT2 hN2
    go_wp2_with fail
    refine (lines_ s HS.out w2).mono ?_
    rintro e w3 ⟨hlr, hb⟩
    obtain ⟨A3, c3, rfl, hT3, hN3⟩ := hlr.norm
    have HB3 := Aside.mk (HB2.out.trans (hb.mono HB2.out.size))
    have HB13 := Aside.mk (HB12.out.trans (hb.mono HB12.out.size))
    have HSAME := Aside.mk (same_txt (c := c2) (d := c3) (HT2.out.below hb) hT3 HN2.out)
    rw [beq_self_eq_true] at HSAME
    clear hb hlr hT3 hN3 HT2 HN2 HB12 HB2 HB1
    obtain ⟨n, hn⟩ : ∃ n, (linesAns s.data.toList).2.2.length = n := ⟨_, rfl⟩
    rw [hn] at HSAME ⊢
    clear hn
    have q1 := eqB (linesAns s.data.toList).1
    have q2 := eqB (linesAns s.data.toList).2.1
    generalize (linesAns s.data.toList).1 = x1 at *
    generalize (linesAns s.data.toList).2.1 = x2 at *
    rcases HSR.out with ⟨h1, he⟩ | ⟨h1, h2, he⟩ | ⟨h1, h2, A, c, he, hc, ht⟩
    · injection he with he
      injection he with he
      have e1 := congrArg (fun a : Array Value => a[0]?) he
      have e2 := congrArg (fun a : Array Value => a[1]?) he
      simp at e1 e2
      obtain ⟨rfl, rfl, rfl⟩ := e1
      subst e2
      rw [size_len] at h1
      have t1 : decide ((65536 : Int) < (s.size : Int)) = true := decide_eq_true (by omega)
      have t2 : decide (65536 < s.size) = true := decide_eq_true h1
      clear HSR he h1
      go_wp2_with (first | (go_at_call 15; refine HSAME.out.mono ?_; rintro e w4 ⟨rfl, hb⟩; have HB4 := Aside.mk (HB3.out.trans (hb.mono HB3.out.size)); have HB14 := Aside.mk (HB13.out.trans (hb.mono HB13.out.size)); clear hb HSAME HB3 HB13) | (go_at_call 11; refine (live_ _ (HW.out.below HB4.out)).mono ?_; rintro e w9 ⟨rfl, hb⟩; replace HB4 := Aside.mk (HB4.out.trans (hb.mono HB4.out.size)); clear hb))
      go_ret
      exact ⟨rfl, HB4.out⟩
    · injection he with he
      injection he with he
      have e1 := congrArg (fun a : Array Value => a[0]?) he
      have e2 := congrArg (fun a : Array Value => a[1]?) he
      simp at e1 e2
      obtain ⟨rfl, rfl, rfl⟩ := e1
      subst e2
      rw [size_len] at h1
      have t1 : decide ((65536 : Int) < (s.size : Int)) = false := decide_eq_false (by omega)
      have t2 : decide (65536 < s.size) = false := decide_eq_false (by omega)
      have HLN := Aside.mk (fun w => line_ s HS.out w)
      rw [h2] at HLN
      clear HSR he h1 h2
      go_wp2_with (first | (go_at_call 15; refine HSAME.out.mono ?_; rintro e w4 ⟨rfl, hb⟩; have HB4 := Aside.mk (HB3.out.trans (hb.mono HB3.out.size)); have HB14 := Aside.mk (HB13.out.trans (hb.mono HB13.out.size)); clear hb HSAME HB3 HB13) | (go_at_call 16; refine (HLN.out _).mono ?_; rintro e w5 ⟨rfl, rfl⟩) | (go_at_call 11; refine (live_ _ (HW.out.below HB4.out)).mono ?_; rintro e w9 ⟨rfl, hb⟩; replace HB4 := Aside.mk (HB4.out.trans (hb.mono HB4.out.size)); clear hb))
      go_ret
      exact ⟨rfl, HB4.out⟩
    · injection he with he
      injection he with he
      have e1 := congrArg (fun a : Array Value => a[0]?) he
      have e2 := congrArg (fun a : Array Value => a[1]?) he
      simp at e1 e2
      obtain ⟨rfl, rfl, rfl⟩ := e1
      subst e2
      rw [size_len] at h1
      have t1 : decide ((65536 : Int) < (s.size : Int)) = false := decide_eq_false (by omega)
      have t2 : decide (65536 < s.size) = false := decide_eq_false (by omega)
      have HLN := Aside.mk (fun w => line_ s HS.out w)
      rw [h2] at HLN
      have HT1 := Aside.mk ht
      have HWN := Aside.mk (show (wordsOf s.data.toList).length ≤ 1000001 by
        unfold wordsOf
        split
        · simp
        · have := sp_count 32 s.data.toList; rw [size_len] at this; omega)
      clear HSR he h1 h2 ht hc
      go_wp2_with (first | (go_at_call 15; refine HSAME.out.mono ?_; rintro e w4 ⟨rfl, hb⟩; have HB4 := Aside.mk (HB3.out.trans (hb.mono HB3.out.size)); have HB14 := Aside.mk (HB13.out.trans (hb.mono HB13.out.size)); clear hb HSAME HB3 HB13) | (go_at_call 16; refine (HLN.out _).mono ?_; rintro e w5 ⟨rfl, rfl⟩) | (go_at_call 17; fail))
      refine (split_ s HS.out _).mono ?_
      rintro e w6 ⟨v, rfl, hO, hb⟩
      obtain ⟨A6, c6, rfl, hT6⟩ := hO.reads
      have HB6 := Aside.mk (HB4.out.trans (hb.mono HB4.out.size))
      have HS6 := Aside.mk (same_txt (c := c1) (d := c6) ((HT1.out.below HB14.out).below hb) hT6 HWN.out)
      rw [beq_self_eq_true] at HS6
      clear hb hO hT6 HB4 HB14
      generalize (wordsOf s.data.toList).length = m at *
      go_wp2_with (first | (go_at_call 15; refine HS6.out.mono ?_; rintro e w4 ⟨rfl, hb⟩; have HB4 := Aside.mk (HB6.out.trans (hb.mono HB6.out.size)); clear hb) | (go_at_call 11; refine (live_ _ (HW.out.below HB4.out)).mono ?_; rintro e w9 ⟨rfl, hb⟩; replace HB4 := Aside.mk (HB4.out.trans (hb.mono HB4.out.size)); clear hb))
      go_ret
      exact ⟨rfl, HB4.out⟩
end Go.Proofs.YtabcdcnnamflfaaDoor.Wd
