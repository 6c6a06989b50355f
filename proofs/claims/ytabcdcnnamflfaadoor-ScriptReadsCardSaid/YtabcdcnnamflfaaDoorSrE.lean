/- The law ScriptReads: walked. Asked: the library's variables lie as laid. -/
import Derived.Test.YtabcdcnnamflfaaDoorSrD
import Derived.Test.YtabcdcnnamflfaaDoorSrShow
import Derived.Test.YtabcdcnnamflfaaDoorScF
set_option linter.unusedVariables false
set_option linter.unusedSimpArgs false
set_option maxRecDepth 100000
namespace Go.Proofs.YtabcdcnnamflfaaDoor.Wd
open Go.RowKit Go.Proofs.YtabcdcnnamflfaaDoorW.PrintWords Go.Proofs.YtabcdcnnamflfaaDoorW.PrintLast Go.Proofs.YtabcdcnnamflfaaDoorW.PrintMore
attribute [local go_sem] max2_int min2_int max_two min_two
theorem parse_ (s : List UInt8) (hs : s.length ≤ 1000000) (w : World) (hw : LibW w) : Calls Tryd.prog 38 #[.string (bs s)] w fun e w' => ParseRes s w w' e := by
  by_cases h : ∃ l ls, s.length ≤ 65536 ∧ linesOf s = (some (l :: ls), 0) ∧ resC l = true
  · obtain ⟨l, ls, h1, h2, h3⟩ := h
    exact parse_main s h1 w hw l ls h2 h3
  · refine (parse_bad s hs w hw fun l ls h1 h2 => ?_).mono fun e w' h => .inr h
    cases h3 : resC l with
    | false => rfl
    | true => exact absurd ⟨l, ls, h1, h2, h3⟩ h
/-- A text that is a script's. -/
def good (t : List UInt8) : Prop := t.length ≤ 65536 ∧ ∃ l ls st, linesOf t = (some (l :: ls), 0) ∧ resC l = true ∧ runL ps0 ls = some st
theorem parse_any (t : List UInt8) (ht : t.length ≤ 1000000) (w : World) (hw : LibW w) : Calls Tryd.prog 38 #[.string (bs t)] w fun e w' => ∃ x0 x1 x2 x3 x4 A n c B m d k code, e = .returned (.tuple #[.agg #[.int .i64 x0, .int .i64 x1, .int .i64 x2, .int .i64 x3, .int .u64 x4, .slice A n c, .slice B m d], .int .i64 k, .int .i64 code]) ∧ (good t → code = 0) ∧ Below w.heap.size w w' := by
  refine (parse_ t ht w hw).mono ?_
  rintro e w' (⟨l, ls, st, v, u, _, _, _, _, rfl, ⟨A, c, rfl, _⟩, hO, hb⟩ | ⟨k, c, hp, rfl, hb⟩)
  · obtain ⟨B, d, rfl⟩ := hO.slice
    exact ⟨_, _, _, _, _, _, _, _, _, _, _, _, _, rfl, fun _ => rfl, hb⟩
  · refine ⟨_, _, _, _, _, _, _, _, _, _, _, _, _, rfl, ?_, hb⟩
    rintro ⟨g1, l, ls, st, g2, g3, g4⟩
    exact (perr_no hp g1 g2 g3 g4).elim
theorem perr_front {s : List UInt8} {k c : Int} (h : PErr s k c) (hs : s.length ≤ 3000) {L : List (List UInt8)} (hL : linesOf s = (some L, 0)) : ∃ p : Nat, k = (p : Int) + 1 ∧ p ≤ L.length ∧ (p : Int) + 1 ≤ max (L.length : Int) 1 ∧ (c = 20 ∨ c = 21) ∧ (p = 0 ∨ good (textOf (L.take p))) := by
  cases h with
  | big h => omega
  | line k _ h => rw [h] at hL; cases hL
  | none _ h => exact ⟨0, rfl, Nat.zero_le _, by omega, .inl rfl, .inl rfl⟩
  | conf l2 ls2 _ h h5 => exact ⟨0, rfl, Nat.zero_le _, by omega, .inl rfl, .inl rfl⟩
  | act l2 ls2 j hj st2 _ h h4 h5 h6 =>
    rw [h] at hL
    injection hL with hL _
    injection hL with hL
    subst hL
    refine ⟨j + 1, by omega, by simp; omega, by simp; omega, stepL_none h6, .inr ?_⟩
    have h7 := lines_none_len h (j + 1)
    have h8 := lines_take h (j + 1)
    exact ⟨by omega, l2, ls2.take j, st2, h8, h4, h5⟩
/-- What stands of a script that was read. -/
theorem ok_facts {s l : List UInt8} {ls : List (List UInt8)} {st : PS} (hs : s.length ≤ 3000) (h : linesOf s = (some (l :: ls), 0)) (hr : resC l = true) (hrun : runL ps0 ls = some st) : textOf (confT (valC l) :: ls) = s ∧ varT (valC l).variant ≠ [] ∧ CfOk (valC l) ∧ In8 (valC l).variant ∧ ((valC l).up.length ≤ 4000 ∧ ∀ x ∈ (valC l).up, x.length ≤ 4000) ∧ (∀ x ∈ st.acts, x.data.length ≤ 100000) ∧ st.acts.length ≤ 4096 := by
  have h1 := conf_read_line hr
  obtain ⟨_, _, h2⟩ := lines_inv h
  have hl := line_len h (l := l) (by simp)
  obtain ⟨v1, v2, v3, v4⟩ := valC_ok l
  refine ⟨by rw [h1]; exact h2, fun hn => ?_, v1, v2, ⟨by omega, fun x hx => by have := v4 x hx; omega⟩, fun x hx => ?_, run_few ls ps0 st (by decide) hrun⟩
  · have e : confT (valC l) = [] := by unfold confT; rw [if_pos hn]
    rw [e] at h1
    subst h1
    exact absurd hr (by decide)
  · rcases run_from ls ps0 st hrun x hx with h3 | ⟨y, hy, rfl⟩
    · cases h3
    · have h4 := (valA_ok y).2.1
      have h5 := line_len h (l := y) (by simp [hy])
      omega
theorem sub1 {p : Nat} (h : p ≤ 100000) : wrap64 (p : Int) = (p : Int) := by unfold wrap64; omega
set_option maxHeartbeats 8000000 in
theorem reads_ok (w : World) (s : List UInt8) (hs : s.length ≤ 3000) (hw : LibW w) (l : List UInt8) (ls : List (List UInt8)) (st : PS) (hl : linesOf s = (some (l :: ls), 0)) (hr : resC l = true) (hrun : runL ps0 ls = some st) :
    Calls Tryd.prog 8 #[.string (bs s)] w fun e w' => e = .returned (.bool true) ∧ Below w.heap.size w w' := by
  have HW := Aside.mk hw
  have HLL := Aside.mk hl
  have HRUN := Aside.mk hrun
  have HP := Aside.mk (parse_ s (by omega) w hw)
  have HLS := Aside.mk (fun W => lines_ (bs s) (by rw [bs_size]; omega) W)
  have HSL := Aside.mk hs
  have HG := Aside.mk (show good s from ⟨by omega, l, ls, st, hl, hr, hrun⟩)
  have HRC := Aside.mk hr
  have HF := Aside.mk (ok_facts hs hl hr hrun)
  have t1 : decide ((3000 : Int) < ((bs s).size : Int)) = false := decide_eq_false (by rw [bs_size]; omega)
  have t2 : decide (3000 < (bs s).size) = false := decide_eq_false (by rw [bs_size]; omega)
  clear hw hl hr hrun hs
  go_enter Tryd.func8, Tryd.ntmps8
  go_wp2_with fail
  refine HP.out.mono ?_
  rintro r w1 hres
  rcases hres with ⟨l2, ls2, st2, v, u, _, h2, h3, h4, rfl, hu, hO, hb⟩ | ⟨k, c, hp, rfl, hb⟩
  · rw [HLL.out] at h2
    injection h2 with h2 _
    injection h2 with h2
    injection h2 with h5 h6
    subst h5
    subst h6
    rw [HRUN.out] at h4
    injection h4 with h4
    subst h4
    obtain ⟨Av, cv, rfl, hcv, hus⟩ := hu
    obtain ⟨Au, cu, rfl⟩ := hO.slice
    obtain ⟨f1, f2, f3, f4, f5, f6, f7⟩ := HF.out
    have HUS := Aside.mk (hus.below (below_alloc (Below.refl w1.heap.size w1) (.cells #[.int .i64 (valC l).variant, .int .i64 (valC l).width, .int .i64 (valC l).cap, .int .i64 (valC l).prod, .int .u64 (((valC l).start : Nat) : Int), .slice Av (valC l).up.length cv, .slice Au st.acts.length cu] 67)))
    have HO := Aside.mk (hO.below (below_alloc (Below.refl w1.heap.size w1) (.cells #[.int .i64 (valC l).variant, .int .i64 (valC l).width, .int .i64 (valC l).cap, .int .i64 (valC l).prod, .int .u64 (((valC l).start : Nat) : Int), .slice Av (valC l).up.length cv, .slice Au st.acts.length cu] 67)))
    have HB := Aside.mk (below_alloc hb (.cells #[.int .i64 (valC l).variant, .int .i64 (valC l).width, .int .i64 (valC l).cap, .int .i64 (valC l).prod, .int .u64 (((valC l).start : Nat) : Int), .slice Av (valC l).up.length cv, .slice Au st.acts.length cu] 67))
    have HX := Aside.mk (heap_alloc_new w1 (.cells #[.int .i64 (valC l).variant, .int .i64 (valC l).width, .int .i64 (valC l).cap, .int .i64 (valC l).prod, .int .u64 (((valC l).start : Nat) : Int), .slice Av (valC l).up.length cv, .slice Au st.acts.length cu] 67))
    have HCV := Aside.mk hcv
    have HF1 := Aside.mk f1
    have HF4 := Aside.mk (And.intro f2 (And.intro f3 (And.intro f4 (And.intro f5 f6))))
    have HF7 := Aside.mk f7
    have p1 : decide ((st.acts.length : Int) ≤ 4096) = true := decide_eq_true (by omega)
    have p2 : decide (st.acts.length ≤ 4096) = true := decide_eq_true f7
    have p3 : ((bs s).toList == (bs s).toList) = true := beq_self_eq_true _
    clear hus hO hb hcv f1 f2 f3 f4 f5 f6 f7 HF h3
    go_upto_region 4 with (fail)
    generalize w1.alloc (.cells #[.int .i64 (valC l).variant, .int .i64 (valC l).width, .int .i64 (valC l).cap, .int .i64 (valC l).prod, .int .u64 (((valC l).start : Nat) : Int), .slice Av (valC l).up.length cv, .slice Au st.acts.length cu] 67) = w2 at *
    generalize w1.heap.size = Q at *
    go_wp2_with fail
    refine (HLS.out _).mono ?_
    rintro r w3 ⟨hlr, hb⟩
    replace HB := Aside.mk (HB.out.trans (hb.mono HB.out.size))
    replace HUS := Aside.mk (HUS.out.below hb)
    replace HO := Aside.mk (HO.out.below hb)
    replace HX := Aside.mk (blk_below HX.out hb)
    clear hb HLS
    unfold LinesRes at hlr
    rw [bs_data, bs_size, HLL.out] at hlr
    rcases hlr with ⟨h1, _⟩ | ⟨_, k, h2, _⟩ | ⟨_, ls2, v, h2, hOw, rfl⟩
    · exact absurd h1 (by have := HSL.out; omega)
    · cases h2
    injection h2 with h2 _
    injection h2 with h2
    subst h2
    obtain ⟨A, c, rfl, _⟩ := hOw.reads
    clear hOw
    obtain ⟨e0, e1, e2, e3, e4, e5, e6⟩ := cell7 HX.out
    have HAC := Aside.mk (show ActC w3 Au st.acts from by
      obtain ⟨A2, c2, e, _, h⟩ := HO.out.reads (fun x hx => by have := HF4.out.2.2.2.2 x hx; omega)
      injection e with e _ _
      subst e
      exact h)
    go_wp2_with fail
    refine (rshow_ w3 (valC l) Av cv (HUS.out.c (by have := HF4.out.2.2.2.1.1; omega) (fun x hx => by have := HF4.out.2.2.2.1.2 x hx; omega)) HCV.out HF4.out.2.1 HF4.out.2.2.1 HF4.out.2.2.2.1 HF4.out.1 Au cu ls st HRUN.out HAC.out HF4.out.2.2.2.2 (by rw [HF1.out]; have := HSL.out; omega)).mono ?_
    rw [HF1.out]
    rintro r w4 ⟨rfl, hb⟩
    replace HB := Aside.mk (HB.out.trans (hb.mono HB.out.size))
    replace HX := Aside.mk (blk_below HX.out hb)
    clear hb e0 e1 e2 e3 e4 e5 e6 HUS HO HAC
    obtain ⟨e0, e1, e2, e3, e4, e5, e6⟩ := cell7 HX.out
    go_wp2_with (go_at_call 28; refine (slive_ _ (HW.out.below HB.out)).mono ?_; rintro e w9 ⟨rfl, hb⟩; replace HB := Aside.mk (HB.out.trans (hb.mono HB.out.size)); clear hb)
    go_ret
    exact ⟨rfl, HB.out⟩
  · obtain ⟨g1, l, ls, st, g2, g3, g4⟩ := HG.out
    exact (perr_no hp g1 g2 g3 g4).elim
theorem cell_z {w : World} {Q : Nat} (h : w.heap[Q]? = some (.cells #[.int .i64 0, .int .i64 0, .int .i64 0, .int .i64 0, .int .u64 0, .slice none 0 0, .slice none 0 0] 67 (0, 0))) : w.cell? ⟨Q, 2, none⟩ = some (.int .i64 0) ∧ w.cell? ⟨Q, 6, none⟩ = some (.slice none 0 0) := ⟨(cell7 h).2.2.1, (cell7 h).2.2.2.2.2.2⟩
set_option maxHeartbeats 8000000 in
theorem reads_line (w : World) (s : List UInt8) (hs : s.length ≤ 3000) (hw : LibW w) (n : Nat) (hl : linesOf s = (none, n)) :
    Calls Tryd.prog 8 #[.string (bs s)] w fun e w' => e = .returned (.bool true) ∧ Below w.heap.size w w' := by
  have HW := Aside.mk hw
  have HLL := Aside.mk hl
  have HP := Aside.mk (parse_ s (by omega) w hw)
  have HLS := Aside.mk (fun W => lines_ (bs s) (by rw [bs_size]; omega) W)
  have HSL := Aside.mk hs
  have t1 : decide ((3000 : Int) < ((bs s).size : Int)) = false := decide_eq_false (by rw [bs_size]; omega)
  have t2 : decide (3000 < (bs s).size) = false := decide_eq_false (by rw [bs_size]; omega)
  clear hw hl hs
  go_enter Tryd.func8, Tryd.ntmps8
  go_wp2_with fail
  refine HP.out.mono ?_
  rintro r w1 hres
  rcases hres with ⟨l2, ls2, st2, v, u, _, h2, h3, h4, rfl, hu, hO, hb⟩ | ⟨k, c, hp, rfl, hb⟩
  · rw [HLL.out] at h2
    cases h2
  · obtain ⟨rfl, rfl⟩ : k = (n : Int) ∧ c = 20 := by
      have h5 := HLL.out
      cases hp with
      | big h => exact absurd h (by have := HSL.out; omega)
      | line k _ h =>
        rw [h] at h5
        injection h5 with _ h5
        exact ⟨by rw [h5], rfl⟩
      | none _ h => rw [h] at h5; cases h5
      | conf l ls _ h _ => rw [h] at h5; cases h5
      | act l ls j hj st _ h _ _ _ => rw [h] at h5; cases h5
    have HB := Aside.mk (below_alloc hb (.cells #[.int .i64 0, .int .i64 0, .int .i64 0, .int .i64 0, .int .u64 0, .slice none 0 0, .slice none 0 0] 67))
    have HX := Aside.mk (heap_alloc_new w1 (.cells #[.int .i64 0, .int .i64 0, .int .i64 0, .int .i64 0, .int .u64 0, .slice none 0 0, .slice none 0 0] 67))
    clear hp hb
    go_upto_region 4 with (fail)
    generalize w1.alloc (.cells #[.int .i64 0, .int .i64 0, .int .i64 0, .int .i64 0, .int .u64 0, .slice none 0 0, .slice none 0 0] 67) = w2 at *
    generalize w1.heap.size = Q at *
    go_wp2_with fail
    refine (HLS.out _).mono ?_
    rintro r w3 ⟨hlr, hb⟩
    replace HB := Aside.mk (HB.out.trans (hb.mono HB.out.size))
    replace HX := Aside.mk (blk_below HX.out hb)
    clear hb HLS
    unfold LinesRes at hlr
    rw [bs_data, bs_size, HLL.out] at hlr
    rcases hlr with ⟨h1, _⟩ | ⟨_, k, h2, rfl⟩ | ⟨_, ls2, v, h2, hOw, rfl⟩
    · exact absurd h1 (by have := HSL.out; omega)
    · injection h2 with _ h2
      subst h2
      obtain ⟨e2, e6⟩ := cell_z HX.out
      have q1 : ((n : Int) == (n : Int)) = true := beq_self_eq_true _
      go_wp2_with (go_at_call 28; refine (slive_ _ (HW.out.below HB.out)).mono ?_; rintro e w9 ⟨rfl, hb⟩; replace HB := Aside.mk (HB.out.trans (hb.mono HB.out.size)); clear hb)
      go_ret
      exact ⟨rfl, HB.out⟩
    · cases h2
set_option maxHeartbeats 8000000 in
theorem reads_bad (w : World) (s : List UInt8) (hs : s.length ≤ 3000) (hw : LibW w) (L : List (List UInt8)) (hl : linesOf s = (some L, 0)) (hng : ¬ good s) :
    Calls Tryd.prog 8 #[.string (bs s)] w fun e w' => e = .returned (.bool true) ∧ Below w.heap.size w w' := by
  have HW := Aside.mk hw
  have HLL := Aside.mk hl
  have HNG := Aside.mk hng
  have HP := Aside.mk (parse_ s (by omega) w hw)
  have HLS := Aside.mk (fun W => lines_ (bs s) (by rw [bs_size]; omega) W)
  have HSL := Aside.mk hs
  have HTL := Aside.mk (fun i => lines_none_len hl i)
  have t1 : decide ((3000 : Int) < ((bs s).size : Int)) = false := decide_eq_false (by rw [bs_size]; omega)
  have t2 : decide (3000 < (bs s).size) = false := decide_eq_false (by rw [bs_size]; omega)
  clear hw hl hs hng
  go_enter Tryd.func8, Tryd.ntmps8
  go_wp2_with fail
  refine HP.out.mono ?_
  rintro r w1 hres
  rcases hres with ⟨l2, ls2, st2, v, u, g1, h2, h3, h4, rfl, hu, hO, hb⟩ | ⟨k, c, hp, rfl, hb⟩
  · exact absurd ⟨g1, l2, ls2, st2, h2, h3, h4⟩ HNG.out
  obtain ⟨p, rfl, hp1, hp2, hc, hgo⟩ := perr_front hp HSL.out HLL.out
  have HP1 := Aside.mk hp1
  have HP2 := Aside.mk hp2
  have HGO := Aside.mk hgo
  have HPL := Aside.mk (show p ≤ 3000 by have := lines_some HLL.out; have := HSL.out; omega)
  have HB := Aside.mk (below_alloc hb (.cells #[.int .i64 0, .int .i64 0, .int .i64 0, .int .i64 0, .int .u64 0, .slice none 0 0, .slice none 0 0] 67))
  have HX := Aside.mk (heap_alloc_new w1 (.cells #[.int .i64 0, .int .i64 0, .int .i64 0, .int .i64 0, .int .u64 0, .slice none 0 0, .slice none 0 0] 67))
  clear hp hb hp1 hp2 hgo
  go_upto_region 4 with (fail)
  generalize w1.alloc (.cells #[.int .i64 0, .int .i64 0, .int .i64 0, .int .i64 0, .int .u64 0, .slice none 0 0, .slice none 0 0] 67) = w2 at *
  generalize w1.heap.size = Q at *
  go_wp2_with fail
  refine (HLS.out _).mono ?_
  rintro r w3 ⟨hlr, hb⟩
  replace HB := Aside.mk (HB.out.trans (hb.mono HB.out.size))
  replace HX := Aside.mk (blk_below HX.out hb)
  clear hb HLS
  unfold LinesRes at hlr
  rw [bs_data, bs_size, HLL.out] at hlr
  rcases hlr with ⟨h1, _⟩ | ⟨_, k, h2, rfl⟩ | ⟨_, ls2, v, h2, hOw, rfl⟩
  · exact absurd h1 (by have := HSL.out; omega)
  · cases h2
  injection h2 with h2 _
  injection h2 with h2
  subst h2
  obtain ⟨A, cp, rfl, hT⟩ := hOw.reads
  have HT := Aside.mk hT
  clear hOw hT
  obtain ⟨e2, e6⟩ := cell_z HX.out
  generalize hLn : L.length = ln at *
  have HLN := Aside.mk hLn
  clear hLn
  have es := sub1 (show p ≤ 100000 by have := HPL.out; omega)
  have a1 : decide ((p : Int) + 1 < 1) = false := decide_eq_false (by omega)
  have a2 : decide (max (ln : Int) 1 < (p : Int) + 1) = false := decide_eq_false (by have := HP2.out; omega)
  have HCC : Aside (c = 20 ∨ c = 21) := ⟨hc⟩
  clear hc
  clear a2
  by_cases hl1 : ln = 0
  all_goals
    first
      | (have m1 : decide ((ln : Int) < 1) = true := decide_eq_true (by omega)
         have m2 : decide ((1 : Int) < (p : Int) + 1) = false := decide_eq_false (by have := HP1.out; omega)
         have m3 : (ln : Int) < 1 := by omega
         have m4 : ¬ ((1 : Int) < (p : Int) + 1) := by have := HP1.out; omega)
      | (have m1 : decide ((ln : Int) < 1) = false := decide_eq_false (by omega)
         have m2 : decide ((ln : Int) < (p : Int) + 1) = false := decide_eq_false (by have := HP2.out; omega)
         have m3 : ¬ ((ln : Int) < 1) := by omega
         have m4 : ¬ ((ln : Int) < (p : Int) + 1) := by have := HP2.out; omega)
    clear hl1
    rcases HCC.out with rfl | rfl
    all_goals
      clear HCC
      go_upto_block 0 with (fail)
      clear e2 e6 a1 m1 m2 m3 m4
      go_wp2_with fail
      go_loopw [11, 12] (fun t x wr => ∃ i : Nat, i ≤ p ∧ t = .string (bs (textOf (L.take i))) ∧ x = .int .i64 i ∧ Aside (Txts wr A L) ∧ Aside (Below w.heap.size w wr)) (fun _ x _ => p - (intOf x).toNat)
      case atStart => exact ⟨0, Nat.zero_le _, rfl, rfl, HT, HB⟩
      case round =>
        clear HT HB
        obtain ⟨i, hi, rfl, rfl, HT, HB⟩ := hrel
        by_cases hlt : i < p
        · have u1 : decide ((i : Int) < (p : Int)) = true := decide_eq_true (by omega)
          have u2 : decide (i < p) = true := decide_eq_true hlt
          have HLT := Aside.mk hlt
          have hil : i < L.length := by have := HP1.out; have := HLN.out; omega
          have b1 : decide ((i : Int) < (ln : Int)) = true := decide_eq_true (by have := HP1.out; omega)
          have b2 : decide (i < ln) = true := decide_eq_true (by have := HP1.out; omega)
          have b3 : (i : Int) < (ln : Int) := by have := HP1.out; omega
          have ei := i1 (show i < 4611686018427387904 by have := HPL.out; omega)
          obtain ⟨ad, rfl, hx⟩ := HT.out.at i hil
          have HTX := Aside.mk (show textOf (L.take (i + 1)) = textOf (L.take i) ++ (L[i] ++ [10]) by rw [List.take_succ_eq_append_getElem hil, textOf_snoc])
          have HTN := Aside.mk (HTL.out (i + 1))
          generalize L[i] = li at *
          generalize textOf (L.take i) = tx at *
          obtain ⟨hcat', hcat2'⟩ := cat3 HTN.out (by rw [HTX.out, List.length_append, List.length_append]; rfl) (Nat.le_trans HSL.out (by decide))
          have hcat : ¬ 9223372036854775807 < (bs tx).size + (bs li).size := by rw [bs_size, bs_size]; exact hcat'
          have hcat2 : ¬ 9223372036854775807 < (bs tx).size + (bs li).size + (⟨#[10]⟩ : ByteArray).size := by rw [bs_size, bs_size, sz10]; exact hcat2'
          clear hcat' hcat2' hil hlt hi
          go_wp2_with fail
          go_roundw
          case rel => exact ⟨i + 1, HLT.out, by rw [bs10s, bs_append, bs_append, HTX.out, List.append_assoc], by first | rfl | simp, HT, HB⟩
          case measure =>
            simp only [intOf, tn3m, Int.toNat_natCast]
            exact meas1 HLT.out
        · obtain rfl : i = p := by omega
          have u1 : decide ((i : Int) < (i : Int)) = false := decide_eq_false (by omega)
          have u2 : decide (i < i) = false := decide_eq_false (by omega)
          clear hi hlt
          have HPA := Aside.mk (parse_any (textOf (L.take i)) (by have := HTL.out i; have := HSL.out; omega) wr (HW.out.below HB.out))
          go_wp2_with fail
          refine HPA.out.mono ?_
          rintro r w5 ⟨x0, x1, x2, x3, x4, A1, n1, c1, A2, n2, c2, k5, c5, rfl, hg, hb⟩
          have HB5 := Aside.mk (below_alloc (HB.out.trans (hb.mono HB.out.size)) (.cells #[.int .i64 x0, .int .i64 x1, .int .i64 x2, .int .i64 x3, .int .u64 x4, .slice A1 n1 c1, .slice A2 n2 c2] 67))
          have HG := Aside.mk hg
          clear hb hg HPA
          rcases HGO.out with h0 | h0
          · have y1 : ((i : Int) + 1 == 1) = true := by rw [h0]; rfl
            have HI := Aside.mk h0
            clear h0
            go_wp2_with (go_at_call 28; refine (slive_ _ (HW.out.below HB5.out)).mono ?_; rintro e w9 ⟨rfl, hb⟩; replace HB5 := Aside.mk (HB5.out.trans (hb.mono HB5.out.size)); clear hb)
            go_ret
            exact ⟨rfl, HB5.out⟩
          · obtain rfl := HG.out h0
            clear h0
            cases hy : ((i : Int) + 1 == 1)
            all_goals
              go_wp2_with (go_at_call 28; refine (slive_ _ (HW.out.below HB5.out)).mono ?_; rintro e w9 ⟨rfl, hb⟩; replace HB5 := Aside.mk (HB5.out.trans (hb.mono HB5.out.size)); clear hb)
              go_ret
              exact ⟨rfl, HB5.out⟩
end Go.Proofs.YtabcdcnnamflfaaDoor.Wd
/- The law ScriptReads at what came in. Asked: the library's variables lie as laid. -/
set_option linter.unusedVariables false
set_option linter.unusedSimpArgs false
set_option maxRecDepth 100000
namespace Go.Proofs.YtabcdcnnamflfaaDoor.Wd
open Go.RowKit Go.Proofs.YtabcdcnnamflfaaDoorW.PrintWords Go.Proofs.YtabcdcnnamflfaaDoorW.PrintLast Go.Proofs.YtabcdcnnamflfaaDoorW.PrintMore
theorem reads_long (w : World) (s : ByteArray) (hs : 3000 < s.size) (hw : LibW w) :
    Calls Tryd.prog 8 #[.string s] w fun e w' => e = .returned (.bool true) ∧ Below w.heap.size w w' := by
  have t1 : decide ((3000 : Int) < (s.size : Int)) = true := decide_eq_true (by omega)
  have t2 : decide (3000 < s.size) = true := decide_eq_true hs
  have HW := Aside.mk hw
  have HB := Aside.mk (Below.refl w.heap.size w)
  clear hs hw
  go_enter Tryd.func8, Tryd.ntmps8
  go_wp2_with (go_at_call 28; refine (slive_ _ (HW.out.below HB.out)).mono ?_; rintro e w9 ⟨rfl, hb⟩; replace HB := Aside.mk (HB.out.trans (hb.mono HB.out.size)); clear hb)
  go_ret
  exact ⟨rfl, HB.out⟩
theorem lines_zero {s : List UInt8} {L : List (List UInt8)} {k : Nat} (h : linesOf s = (some L, k)) : k = 0 := by
  unfold linesOf at h
  split at h
  · cases h
  · split at h
    · injection h with _ h
      exact h.symm
    · cases h
theorem walkScriptReads (s : ByteArray) (w : World) (hw : LibW w) : Calls Tryd.prog 8 #[.string s] w fun e w' => e = .returned (.bool true) ∧ Below w.heap.size w w' := by
  by_cases hs : 3000 < s.size
  · exact reads_long w s hs hw
  have hl : s.data.toList.length ≤ 3000 := by rw [size_len]; omega
  rw [← data_bs s]
  match h : linesOf s.data.toList with
  | (none, n) => exact reads_line w _ hl hw n h
  | (some L, k) =>
    obtain rfl := lines_zero h
    by_cases hg : good s.data.toList
    · obtain ⟨_, l, ls, st, h1, h2, h3⟩ := hg
      exact reads_ok w _ hl hw l ls st h1 h2 h3
    · exact reads_bad w _ hl hw L h hg
end Go.Proofs.YtabcdcnnamflfaaDoor.Wd
