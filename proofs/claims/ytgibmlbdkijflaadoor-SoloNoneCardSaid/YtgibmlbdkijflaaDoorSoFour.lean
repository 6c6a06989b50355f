/- The document's handles: May, Claimed, Published, Released. -/
import Derived.Test.YtgibmlbdkijflaaDoorSoOne
import Derived.Test.YtgibmlbdkijflaaDoorSoThree
import Derived.Test.YtgibmlbdkijflaaDoorQSo
set_option linter.unusedVariables false
set_option linter.unusedSimpArgs false
set_option maxRecDepth 100000
namespace Go.Proofs.YtgibmlbdkijflaaDoor.So
open Go.RowKit Go.Proofs.YtgibmlbdkijflaaDoorW.PrintWords Go.Proofs.YtgibmlbdkijflaaDoorW.PrintLast Go.Proofs.YtgibmlbdkijflaaDoorW.PrintMore
open Ow
open Mo (Aside Cx U64 I64 ints least run cutW plusW New below_low tn1 meas1 w64 i1 wrapE)
open QGc (checkC)
open Graph (checkG Gv)
def mayC (cap : Int) (pr hd : Bool) (g u : Int) (c : Cl) : Int :=
  if pr = true then
    if c.op = 1 ∨ c.op = 5 then
      if szC c < 1 ∨ szC c > cap then 13 else if hd = true then 14 else 0
    else if c.op = 2 then (if hd = false then 14 else 0)
    else 12
  else
    if c.op = 4 then (if c.n < 1 ∨ c.n > u - g then 13 else 0)
    else if c.op = 6 then (if c.n < 1 ∨ c.n > cap then 13 else 0)
    else if c.op = 3 then 0 else 12
theorem cell7s {w : World} {g : Nat} {c0 c1 c2 c3 c4 c5 c6 : Value} {t : TypeId} (h : w.heap[g]? = some (.cells #[c0, c1, c2, c3, c4, c5, c6] t (0, 0))) :
    w.cell? ⟨g, 0, none⟩ = some c0 ∧ w.cell? ⟨g, 1, none⟩ = some c1 ∧ w.cell? ⟨g, 2, none⟩ = some c2 ∧ w.cell? ⟨g, 3, none⟩ = some c3 ∧ w.cell? ⟨g, 4, none⟩ = some c4 ∧ w.cell? ⟨g, 5, none⟩ = some c5 ∧ w.cell? ⟨g, 6, none⟩ = some c6 :=
  ⟨(blk_cell h 0).trans rfl, (blk_cell h 1).trans rfl, (blk_cell h 2).trans rfl, (blk_cell h 3).trans rfl, (blk_cell h 4).trans rfl, (blk_cell h 5).trans rfl, (blk_cell h 6).trans rfl⟩
set_option maxHeartbeats 8000000 in
theorem may_true (cap : Int) (hd : Bool) (fr hn g u : Int) (hgu : -100000 ≤ u - g ∧ u - g ≤ 100000) (c : Cl) (A : Option Addr) (C : Nat) (w : World) :
    Calls Tryd.prog 43 #[.agg #[.int .i64 cap, .bool true, .bool hd, .int .u64 fr, .int .i64 hn, .int .i64 g, .int .i64 u], .agg #[.int .i64 c.op, .int .i64 c.n, .slice A c.data.length C]] w fun e w' => e = .returned (.int .i64 (mayC cap true hd g u c)) ∧ Below w.heap.size w w' := by
  have HW := Aside.mk (below_alloc (below_alloc (Below.refl w.heap.size w) (.cells #[.int .i64 cap, .bool true, .bool hd, .int .u64 fr, .int .i64 hn, .int .i64 g, .int .i64 u] 81)) (.cells #[.int .i64 c.op, .int .i64 c.n, .slice A c.data.length C] 39))
  have HX := heap_alloc_new w (.cells #[.int .i64 cap, .bool true, .bool hd, .int .u64 fr, .int .i64 hn, .int .i64 g, .int .i64 u] 81)
  have HY := heap_alloc_new (w.alloc (.cells #[.int .i64 cap, .bool true, .bool hd, .int .u64 fr, .int .i64 hn, .int .i64 g, .int .i64 u] 81)) (.cells #[.int .i64 c.op, .int .i64 c.n, .slice A c.data.length C] 39)
  rw [World.size_alloc] at HY
  obtain ⟨x0, x1, x2, x3, x4, x5, x6⟩ := cell7s (blk_alloc HX (.cells #[.int .i64 c.op, .int .i64 c.n, .slice A c.data.length C] 39))
  obtain ⟨y0, y1, y2⟩ := cell3 HY
  have ew : wrap64 (u - g) = u - g := w64 (by omega)
  have ew2 : IntKind.i64.wrap (u - g) = u - g := by rw [wrapE]; exact ew
  clear HX HY hgu
  go_enter Tryd.func43, Tryd.ntmps43
  go_upto_region 1 with (fail)
  generalize (w.alloc (.cells #[.int .i64 cap, .bool true, .bool hd, .int .u64 fr, .int .i64 hn, .int .i64 g, .int .i64 u] 81)).alloc (.cells #[.int .i64 c.op, .int .i64 c.n, .slice A c.data.length C] 39) = w2 at *
  by_cases hv : c.op = 1
  · have o1 : (c.op == 1) = true := by rw [hv]; rfl
    have n1 : (c.op != 1) = false := by rw [hv]; rfl
    have o2 : (c.op == 2) = false := by rw [hv]; rfl
    have n2 : (c.op != 2) = true := by rw [hv]; rfl
    have o3 : (c.op == 3) = false := by rw [hv]; rfl
    have n3 : (c.op != 3) = true := by rw [hv]; rfl
    have o4 : (c.op == 4) = false := by rw [hv]; rfl
    have n4 : (c.op != 4) = true := by rw [hv]; rfl
    have o5 : (c.op == 5) = false := by rw [hv]; rfl
    have n5 : (c.op != 5) = true := by rw [hv]; rfl
    have o6 : (c.op == 6) = false := by rw [hv]; rfl
    have n6 : (c.op != 6) = true := by rw [hv]; rfl
    have HV := Aside.mk hv
    clear hv
    have EC := Aside.mk (show mayC cap true hd g u c = if c.n < 1 ∨ c.n > cap then 13 else if hd = true then 14 else 0 from by unfold mayC; rw [if_pos rfl, if_pos (by have := HV.out; omega), show szC c = c.n from by unfold szC; rw [if_neg (by have := HV.out; omega)]])
    by_cases h1_ : c.n < 1
    · have t1 : decide (c.n < 1) = true := decide_eq_true h1_
      have HO := Aside.mk h1_
      clear h1_
      go_wp2
      go_ret
      exact ⟨by rw [EC.out, if_pos (.inl HO.out)] <;> rfl, HW.out⟩
    have t1 : decide (c.n < 1) = false := decide_eq_false h1_
    by_cases h2_ : cap < c.n
    · have t2 : decide (cap < c.n) = true := decide_eq_true h2_
      have HO := Aside.mk h2_
      clear h1_ h2_
      go_wp2
      go_ret
      exact ⟨by rw [EC.out, if_pos (.inr HO.out)] <;> rfl, HW.out⟩
    have t2 : decide (cap < c.n) = false := decide_eq_false h2_
    have HO := Aside.mk (show ¬ (c.n < 1 ∨ c.n > cap) by omega)
    clear h1_ h2_
    cases hd with
    | true =>
      go_wp2
      go_ret
      exact ⟨by rw [EC.out, if_neg HO.out] <;> rfl, HW.out⟩
    | false =>
      go_wp2
      go_ret
      exact ⟨by rw [EC.out, if_neg HO.out] <;> rfl, HW.out⟩
  have h1 := hv
  clear hv
  by_cases hv : c.op = 2
  · have o1 : (c.op == 1) = false := by rw [hv]; rfl
    have n1 : (c.op != 1) = true := by rw [hv]; rfl
    have o2 : (c.op == 2) = true := by rw [hv]; rfl
    have n2 : (c.op != 2) = false := by rw [hv]; rfl
    have o3 : (c.op == 3) = false := by rw [hv]; rfl
    have n3 : (c.op != 3) = true := by rw [hv]; rfl
    have o4 : (c.op == 4) = false := by rw [hv]; rfl
    have n4 : (c.op != 4) = true := by rw [hv]; rfl
    have o5 : (c.op == 5) = false := by rw [hv]; rfl
    have n5 : (c.op != 5) = true := by rw [hv]; rfl
    have o6 : (c.op == 6) = false := by rw [hv]; rfl
    have n6 : (c.op != 6) = true := by rw [hv]; rfl
    have HV := Aside.mk hv
    clear hv
    have EC := Aside.mk (show mayC cap true hd g u c = if hd = false then 14 else 0 from by unfold mayC; rw [if_pos rfl, if_neg (by have := HV.out; omega), if_pos HV.out])
    cases hd with
    | true =>
      go_wp2
      go_ret
      exact ⟨by rw [EC.out] <;> rfl, HW.out⟩
    | false =>
      go_wp2
      go_ret
      exact ⟨by rw [EC.out] <;> rfl, HW.out⟩
  have h2 := hv
  clear hv
  by_cases hv : c.op = 3
  · have o1 : (c.op == 1) = false := by rw [hv]; rfl
    have n1 : (c.op != 1) = true := by rw [hv]; rfl
    have o2 : (c.op == 2) = false := by rw [hv]; rfl
    have n2 : (c.op != 2) = true := by rw [hv]; rfl
    have o3 : (c.op == 3) = true := by rw [hv]; rfl
    have n3 : (c.op != 3) = false := by rw [hv]; rfl
    have o4 : (c.op == 4) = false := by rw [hv]; rfl
    have n4 : (c.op != 4) = true := by rw [hv]; rfl
    have o5 : (c.op == 5) = false := by rw [hv]; rfl
    have n5 : (c.op != 5) = true := by rw [hv]; rfl
    have o6 : (c.op == 6) = false := by rw [hv]; rfl
    have n6 : (c.op != 6) = true := by rw [hv]; rfl
    have HV := Aside.mk hv
    clear hv
    have EC := Aside.mk (show mayC cap true hd g u c = 12 from by unfold mayC; rw [if_pos rfl, if_neg (by have := HV.out; omega), if_neg (by have := HV.out; omega)])
    go_wp2
    go_ret
    exact ⟨by rw [EC.out] <;> rfl, HW.out⟩
  have h3 := hv
  clear hv
  by_cases hv : c.op = 4
  · have o1 : (c.op == 1) = false := by rw [hv]; rfl
    have n1 : (c.op != 1) = true := by rw [hv]; rfl
    have o2 : (c.op == 2) = false := by rw [hv]; rfl
    have n2 : (c.op != 2) = true := by rw [hv]; rfl
    have o3 : (c.op == 3) = false := by rw [hv]; rfl
    have n3 : (c.op != 3) = true := by rw [hv]; rfl
    have o4 : (c.op == 4) = true := by rw [hv]; rfl
    have n4 : (c.op != 4) = false := by rw [hv]; rfl
    have o5 : (c.op == 5) = false := by rw [hv]; rfl
    have n5 : (c.op != 5) = true := by rw [hv]; rfl
    have o6 : (c.op == 6) = false := by rw [hv]; rfl
    have n6 : (c.op != 6) = true := by rw [hv]; rfl
    have HV := Aside.mk hv
    clear hv
    have EC := Aside.mk (show mayC cap true hd g u c = 12 from by unfold mayC; rw [if_pos rfl, if_neg (by have := HV.out; omega), if_neg (by have := HV.out; omega)])
    go_wp2
    go_ret
    exact ⟨by rw [EC.out] <;> rfl, HW.out⟩
  have h4 := hv
  clear hv
  by_cases hv : c.op = 5
  · have o1 : (c.op == 1) = false := by rw [hv]; rfl
    have n1 : (c.op != 1) = true := by rw [hv]; rfl
    have o2 : (c.op == 2) = false := by rw [hv]; rfl
    have n2 : (c.op != 2) = true := by rw [hv]; rfl
    have o3 : (c.op == 3) = false := by rw [hv]; rfl
    have n3 : (c.op != 3) = true := by rw [hv]; rfl
    have o4 : (c.op == 4) = false := by rw [hv]; rfl
    have n4 : (c.op != 4) = true := by rw [hv]; rfl
    have o5 : (c.op == 5) = true := by rw [hv]; rfl
    have n5 : (c.op != 5) = false := by rw [hv]; rfl
    have o6 : (c.op == 6) = false := by rw [hv]; rfl
    have n6 : (c.op != 6) = true := by rw [hv]; rfl
    have HV := Aside.mk hv
    clear hv
    have EC := Aside.mk (show mayC cap true hd g u c = if (c.data.length : Int) < 1 ∨ (c.data.length : Int) > cap then 13 else if hd = true then 14 else 0 from by unfold mayC; rw [if_pos rfl, if_pos (by have := HV.out; omega), show szC c = (c.data.length : Int) from by unfold szC; rw [if_pos HV.out]])
    by_cases h1_ : (c.data.length : Int) < 1
    · have t1 : decide ((c.data.length : Int) < 1) = true := decide_eq_true h1_
      have HO := Aside.mk h1_
      clear h1_
      go_wp2
      go_ret
      exact ⟨by rw [EC.out, if_pos (.inl HO.out)] <;> rfl, HW.out⟩
    have t1 : decide ((c.data.length : Int) < 1) = false := decide_eq_false h1_
    by_cases h2_ : cap < (c.data.length : Int)
    · have t2 : decide (cap < (c.data.length : Int)) = true := decide_eq_true h2_
      have HO := Aside.mk h2_
      clear h1_ h2_
      go_wp2
      go_ret
      exact ⟨by rw [EC.out, if_pos (.inr HO.out)] <;> rfl, HW.out⟩
    have t2 : decide (cap < (c.data.length : Int)) = false := decide_eq_false h2_
    have HO := Aside.mk (show ¬ ((c.data.length : Int) < 1 ∨ (c.data.length : Int) > cap) by omega)
    clear h1_ h2_
    cases hd with
    | true =>
      go_wp2
      go_ret
      exact ⟨by rw [EC.out, if_neg HO.out] <;> rfl, HW.out⟩
    | false =>
      go_wp2
      go_ret
      exact ⟨by rw [EC.out, if_neg HO.out] <;> rfl, HW.out⟩
  have h5 := hv
  clear hv
  by_cases hv : c.op = 6
  · have o1 : (c.op == 1) = false := by rw [hv]; rfl
    have n1 : (c.op != 1) = true := by rw [hv]; rfl
    have o2 : (c.op == 2) = false := by rw [hv]; rfl
    have n2 : (c.op != 2) = true := by rw [hv]; rfl
    have o3 : (c.op == 3) = false := by rw [hv]; rfl
    have n3 : (c.op != 3) = true := by rw [hv]; rfl
    have o4 : (c.op == 4) = false := by rw [hv]; rfl
    have n4 : (c.op != 4) = true := by rw [hv]; rfl
    have o5 : (c.op == 5) = false := by rw [hv]; rfl
    have n5 : (c.op != 5) = true := by rw [hv]; rfl
    have o6 : (c.op == 6) = true := by rw [hv]; rfl
    have n6 : (c.op != 6) = false := by rw [hv]; rfl
    have HV := Aside.mk hv
    clear hv
    have EC := Aside.mk (show mayC cap true hd g u c = 12 from by unfold mayC; rw [if_pos rfl, if_neg (by have := HV.out; omega), if_neg (by have := HV.out; omega)])
    go_wp2
    go_ret
    exact ⟨by rw [EC.out] <;> rfl, HW.out⟩
  have h6 := hv
  clear hv
  have o1 : (c.op == 1) = false := by simpa using h1
  have n1 : (c.op != 1) = true := by simpa using h1
  have o2 : (c.op == 2) = false := by simpa using h2
  have n2 : (c.op != 2) = true := by simpa using h2
  have o3 : (c.op == 3) = false := by simpa using h3
  have n3 : (c.op != 3) = true := by simpa using h3
  have o4 : (c.op == 4) = false := by simpa using h4
  have n4 : (c.op != 4) = true := by simpa using h4
  have o5 : (c.op == 5) = false := by simpa using h5
  have n5 : (c.op != 5) = true := by simpa using h5
  have o6 : (c.op == 6) = false := by simpa using h6
  have n6 : (c.op != 6) = true := by simpa using h6
  have HV := Aside.mk (And.intro h1 (And.intro h2 (And.intro h3 (And.intro h4 (And.intro h5 h6)))))
  clear h1 h2 h3 h4 h5 h6
  have EC := Aside.mk (show mayC cap true hd g u c = 12 from by unfold mayC; rw [if_pos rfl, if_neg (by have := HV.out; omega), if_neg (by have := HV.out; omega)])
  go_wp2
  go_ret
  exact ⟨by rw [EC.out] <;> rfl, HW.out⟩
set_option maxHeartbeats 8000000 in
theorem may_false (cap : Int) (hd : Bool) (fr hn g u : Int) (hgu : -100000 ≤ u - g ∧ u - g ≤ 100000) (c : Cl) (A : Option Addr) (C : Nat) (w : World) :
    Calls Tryd.prog 43 #[.agg #[.int .i64 cap, .bool false, .bool hd, .int .u64 fr, .int .i64 hn, .int .i64 g, .int .i64 u], .agg #[.int .i64 c.op, .int .i64 c.n, .slice A c.data.length C]] w fun e w' => e = .returned (.int .i64 (mayC cap false hd g u c)) ∧ Below w.heap.size w w' := by
  have HW := Aside.mk (below_alloc (below_alloc (Below.refl w.heap.size w) (.cells #[.int .i64 cap, .bool false, .bool hd, .int .u64 fr, .int .i64 hn, .int .i64 g, .int .i64 u] 81)) (.cells #[.int .i64 c.op, .int .i64 c.n, .slice A c.data.length C] 39))
  have HX := heap_alloc_new w (.cells #[.int .i64 cap, .bool false, .bool hd, .int .u64 fr, .int .i64 hn, .int .i64 g, .int .i64 u] 81)
  have HY := heap_alloc_new (w.alloc (.cells #[.int .i64 cap, .bool false, .bool hd, .int .u64 fr, .int .i64 hn, .int .i64 g, .int .i64 u] 81)) (.cells #[.int .i64 c.op, .int .i64 c.n, .slice A c.data.length C] 39)
  rw [World.size_alloc] at HY
  obtain ⟨x0, x1, x2, x3, x4, x5, x6⟩ := cell7s (blk_alloc HX (.cells #[.int .i64 c.op, .int .i64 c.n, .slice A c.data.length C] 39))
  obtain ⟨y0, y1, y2⟩ := cell3 HY
  have ew : wrap64 (u - g) = u - g := w64 (by omega)
  have ew2 : IntKind.i64.wrap (u - g) = u - g := by rw [wrapE]; exact ew
  clear HX HY hgu
  go_enter Tryd.func43, Tryd.ntmps43
  go_upto_region 1 with (fail)
  generalize (w.alloc (.cells #[.int .i64 cap, .bool false, .bool hd, .int .u64 fr, .int .i64 hn, .int .i64 g, .int .i64 u] 81)).alloc (.cells #[.int .i64 c.op, .int .i64 c.n, .slice A c.data.length C] 39) = w2 at *
  by_cases hv : c.op = 1
  · have o1 : (c.op == 1) = true := by rw [hv]; rfl
    have n1 : (c.op != 1) = false := by rw [hv]; rfl
    have o2 : (c.op == 2) = false := by rw [hv]; rfl
    have n2 : (c.op != 2) = true := by rw [hv]; rfl
    have o3 : (c.op == 3) = false := by rw [hv]; rfl
    have n3 : (c.op != 3) = true := by rw [hv]; rfl
    have o4 : (c.op == 4) = false := by rw [hv]; rfl
    have n4 : (c.op != 4) = true := by rw [hv]; rfl
    have o5 : (c.op == 5) = false := by rw [hv]; rfl
    have n5 : (c.op != 5) = true := by rw [hv]; rfl
    have o6 : (c.op == 6) = false := by rw [hv]; rfl
    have n6 : (c.op != 6) = true := by rw [hv]; rfl
    have HV := Aside.mk hv
    clear hv
    have EC := Aside.mk (show mayC cap false hd g u c = 12 from by unfold mayC; rw [if_neg (by decide), if_neg (by have := HV.out; omega), if_neg (by have := HV.out; omega), if_neg (by have := HV.out; omega)])
    go_wp2
    go_ret
    exact ⟨by rw [EC.out] <;> rfl, HW.out⟩
  have h1 := hv
  clear hv
  by_cases hv : c.op = 2
  · have o1 : (c.op == 1) = false := by rw [hv]; rfl
    have n1 : (c.op != 1) = true := by rw [hv]; rfl
    have o2 : (c.op == 2) = true := by rw [hv]; rfl
    have n2 : (c.op != 2) = false := by rw [hv]; rfl
    have o3 : (c.op == 3) = false := by rw [hv]; rfl
    have n3 : (c.op != 3) = true := by rw [hv]; rfl
    have o4 : (c.op == 4) = false := by rw [hv]; rfl
    have n4 : (c.op != 4) = true := by rw [hv]; rfl
    have o5 : (c.op == 5) = false := by rw [hv]; rfl
    have n5 : (c.op != 5) = true := by rw [hv]; rfl
    have o6 : (c.op == 6) = false := by rw [hv]; rfl
    have n6 : (c.op != 6) = true := by rw [hv]; rfl
    have HV := Aside.mk hv
    clear hv
    have EC := Aside.mk (show mayC cap false hd g u c = 12 from by unfold mayC; rw [if_neg (by decide), if_neg (by have := HV.out; omega), if_neg (by have := HV.out; omega), if_neg (by have := HV.out; omega)])
    go_wp2
    go_ret
    exact ⟨by rw [EC.out] <;> rfl, HW.out⟩
  have h2 := hv
  clear hv
  by_cases hv : c.op = 3
  · have o1 : (c.op == 1) = false := by rw [hv]; rfl
    have n1 : (c.op != 1) = true := by rw [hv]; rfl
    have o2 : (c.op == 2) = false := by rw [hv]; rfl
    have n2 : (c.op != 2) = true := by rw [hv]; rfl
    have o3 : (c.op == 3) = true := by rw [hv]; rfl
    have n3 : (c.op != 3) = false := by rw [hv]; rfl
    have o4 : (c.op == 4) = false := by rw [hv]; rfl
    have n4 : (c.op != 4) = true := by rw [hv]; rfl
    have o5 : (c.op == 5) = false := by rw [hv]; rfl
    have n5 : (c.op != 5) = true := by rw [hv]; rfl
    have o6 : (c.op == 6) = false := by rw [hv]; rfl
    have n6 : (c.op != 6) = true := by rw [hv]; rfl
    have HV := Aside.mk hv
    clear hv
    have EC := Aside.mk (show mayC cap false hd g u c = 0 from by unfold mayC; rw [if_neg (by decide), if_neg (by have := HV.out; omega), if_neg (by have := HV.out; omega), if_pos HV.out])
    go_wp2
    go_ret
    exact ⟨by rw [EC.out] <;> rfl, HW.out⟩
  have h3 := hv
  clear hv
  by_cases hv : c.op = 4
  · have o1 : (c.op == 1) = false := by rw [hv]; rfl
    have n1 : (c.op != 1) = true := by rw [hv]; rfl
    have o2 : (c.op == 2) = false := by rw [hv]; rfl
    have n2 : (c.op != 2) = true := by rw [hv]; rfl
    have o3 : (c.op == 3) = false := by rw [hv]; rfl
    have n3 : (c.op != 3) = true := by rw [hv]; rfl
    have o4 : (c.op == 4) = true := by rw [hv]; rfl
    have n4 : (c.op != 4) = false := by rw [hv]; rfl
    have o5 : (c.op == 5) = false := by rw [hv]; rfl
    have n5 : (c.op != 5) = true := by rw [hv]; rfl
    have o6 : (c.op == 6) = false := by rw [hv]; rfl
    have n6 : (c.op != 6) = true := by rw [hv]; rfl
    have HV := Aside.mk hv
    clear hv
    have EC := Aside.mk (show mayC cap false hd g u c = if c.n < 1 ∨ c.n > u - g then 13 else 0 from by unfold mayC; rw [if_neg (by decide), if_pos HV.out])
    by_cases h1_ : c.n < 1
    · have t1 : decide (c.n < 1) = true := decide_eq_true h1_
      have HO := Aside.mk h1_
      clear h1_
      go_wp2
      go_ret
      exact ⟨by rw [EC.out, if_pos (.inl HO.out)] <;> rfl, HW.out⟩
    have t1 : decide (c.n < 1) = false := decide_eq_false h1_
    by_cases h2_ : u - g < c.n
    · have t2 : decide (u - g < c.n) = true := decide_eq_true h2_
      have HO := Aside.mk h2_
      clear h1_ h2_
      go_wp2
      go_ret
      exact ⟨by rw [EC.out, if_pos (.inr HO.out)] <;> rfl, HW.out⟩
    have t2 : decide (u - g < c.n) = false := decide_eq_false h2_
    have HO := Aside.mk (show ¬ (c.n < 1 ∨ c.n > u - g) by omega)
    clear h1_ h2_
    go_wp2
    go_ret
    exact ⟨by rw [EC.out, if_neg HO.out] <;> rfl, HW.out⟩
  have h4 := hv
  clear hv
  by_cases hv : c.op = 5
  · have o1 : (c.op == 1) = false := by rw [hv]; rfl
    have n1 : (c.op != 1) = true := by rw [hv]; rfl
    have o2 : (c.op == 2) = false := by rw [hv]; rfl
    have n2 : (c.op != 2) = true := by rw [hv]; rfl
    have o3 : (c.op == 3) = false := by rw [hv]; rfl
    have n3 : (c.op != 3) = true := by rw [hv]; rfl
    have o4 : (c.op == 4) = false := by rw [hv]; rfl
    have n4 : (c.op != 4) = true := by rw [hv]; rfl
    have o5 : (c.op == 5) = true := by rw [hv]; rfl
    have n5 : (c.op != 5) = false := by rw [hv]; rfl
    have o6 : (c.op == 6) = false := by rw [hv]; rfl
    have n6 : (c.op != 6) = true := by rw [hv]; rfl
    have HV := Aside.mk hv
    clear hv
    have EC := Aside.mk (show mayC cap false hd g u c = 12 from by unfold mayC; rw [if_neg (by decide), if_neg (by have := HV.out; omega), if_neg (by have := HV.out; omega), if_neg (by have := HV.out; omega)])
    go_wp2
    go_ret
    exact ⟨by rw [EC.out] <;> rfl, HW.out⟩
  have h5 := hv
  clear hv
  by_cases hv : c.op = 6
  · have o1 : (c.op == 1) = false := by rw [hv]; rfl
    have n1 : (c.op != 1) = true := by rw [hv]; rfl
    have o2 : (c.op == 2) = false := by rw [hv]; rfl
    have n2 : (c.op != 2) = true := by rw [hv]; rfl
    have o3 : (c.op == 3) = false := by rw [hv]; rfl
    have n3 : (c.op != 3) = true := by rw [hv]; rfl
    have o4 : (c.op == 4) = false := by rw [hv]; rfl
    have n4 : (c.op != 4) = true := by rw [hv]; rfl
    have o5 : (c.op == 5) = false := by rw [hv]; rfl
    have n5 : (c.op != 5) = true := by rw [hv]; rfl
    have o6 : (c.op == 6) = true := by rw [hv]; rfl
    have n6 : (c.op != 6) = false := by rw [hv]; rfl
    have HV := Aside.mk hv
    clear hv
    have EC := Aside.mk (show mayC cap false hd g u c = if c.n < 1 ∨ c.n > cap then 13 else 0 from by unfold mayC; rw [if_neg (by decide), if_neg (by have := HV.out; omega), if_pos HV.out])
    by_cases h1_ : c.n < 1
    · have t1 : decide (c.n < 1) = true := decide_eq_true h1_
      have HO := Aside.mk h1_
      clear h1_
      go_wp2
      go_ret
      exact ⟨by rw [EC.out, if_pos (.inl HO.out)] <;> rfl, HW.out⟩
    have t1 : decide (c.n < 1) = false := decide_eq_false h1_
    by_cases h2_ : cap < c.n
    · have t2 : decide (cap < c.n) = true := decide_eq_true h2_
      have HO := Aside.mk h2_
      clear h1_ h2_
      go_wp2
      go_ret
      exact ⟨by rw [EC.out, if_pos (.inr HO.out)] <;> rfl, HW.out⟩
    have t2 : decide (cap < c.n) = false := decide_eq_false h2_
    have HO := Aside.mk (show ¬ (c.n < 1 ∨ c.n > cap) by omega)
    clear h1_ h2_
    go_wp2
    go_ret
    exact ⟨by rw [EC.out, if_neg HO.out] <;> rfl, HW.out⟩
  have h6 := hv
  clear hv
  have o1 : (c.op == 1) = false := by simpa using h1
  have n1 : (c.op != 1) = true := by simpa using h1
  have o2 : (c.op == 2) = false := by simpa using h2
  have n2 : (c.op != 2) = true := by simpa using h2
  have o3 : (c.op == 3) = false := by simpa using h3
  have n3 : (c.op != 3) = true := by simpa using h3
  have o4 : (c.op == 4) = false := by simpa using h4
  have n4 : (c.op != 4) = true := by simpa using h4
  have o5 : (c.op == 5) = false := by simpa using h5
  have n5 : (c.op != 5) = true := by simpa using h5
  have o6 : (c.op == 6) = false := by simpa using h6
  have n6 : (c.op != 6) = true := by simpa using h6
  have HV := Aside.mk (And.intro h1 (And.intro h2 (And.intro h3 (And.intro h4 (And.intro h5 h6)))))
  clear h1 h2 h3 h4 h5 h6
  have EC := Aside.mk (show mayC cap false hd g u c = 12 from by unfold mayC; rw [if_neg (by decide), if_neg (by have := HV.out; omega), if_neg (by have := HV.out; omega), if_neg (by have := HV.out; omega)])
  go_wp2
  go_ret
  exact ⟨by rw [EC.out] <;> rfl, HW.out⟩
end Go.Proofs.YtgibmlbdkijflaaDoor.So
set_option linter.unusedVariables false
set_option linter.unusedSimpArgs false
set_option maxRecDepth 100000
namespace Go.Proofs.YtgibmlbdkijflaaDoor.So
open Go.RowKit Go.Proofs.YtgibmlbdkijflaaDoorW.PrintWords Go.Proofs.YtgibmlbdkijflaaDoorW.PrintLast Go.Proofs.YtgibmlbdkijflaaDoorW.PrintMore
open Ow
open Mo (Aside Cx U64 I64 ints least run cutW plusW New below_low tn1 meas1 w64 i1 wrapE)
open QGc (checkC)
open Graph (checkG Gv)
theorem set7b {w0 w : World} {R : Nat} {t : TypeId} {a0 a1 a2 a3 a4 a5 a6 : Value} (v0 v1 v2 v3 v4 v5 v6 : Value) (b : Below w0.heap.size w0 w) (hR : w0.heap.size ≤ R) (h : w.heap[R]? = some (.cells #[a0, a1, a2, a3, a4, a5, a6] t (0, 0))) :
    (((((((w.setCell ⟨R, 0, none⟩ v0).setCell ⟨R, 1, none⟩ v1).setCell ⟨R, 2, none⟩ v2).setCell ⟨R, 3, none⟩ v3).setCell ⟨R, 4, none⟩ v4).setCell ⟨R, 5, none⟩ v5).setCell ⟨R, 6, none⟩ v6).heap[R]? = some (.cells #[v0, v1, v2, v3, v4, v5, v6] t (0, 0)) ∧ Below w0.heap.size w0 (((((((w.setCell ⟨R, 0, none⟩ v0).setCell ⟨R, 1, none⟩ v1).setCell ⟨R, 2, none⟩ v2).setCell ⟨R, 3, none⟩ v3).setCell ⟨R, 4, none⟩ v4).setCell ⟨R, 5, none⟩ v5).setCell ⟨R, 6, none⟩ v6) := by
  have k0 := blk_put (cs' := #[v0, a1, a2, a3, a4, a5, a6]) h 0 v0 rfl
  have k1 := blk_put (cs' := #[v0, v1, a2, a3, a4, a5, a6]) k0 1 v1 rfl
  have k2 := blk_put (cs' := #[v0, v1, v2, a3, a4, a5, a6]) k1 2 v2 rfl
  have k3 := blk_put (cs' := #[v0, v1, v2, v3, a4, a5, a6]) k2 3 v3 rfl
  have k4 := blk_put (cs' := #[v0, v1, v2, v3, v4, a5, a6]) k3 4 v4 rfl
  have k5 := blk_put (cs' := #[v0, v1, v2, v3, v4, v5, a6]) k4 5 v5 rfl
  have k6 := blk_put (cs' := #[v0, v1, v2, v3, v4, v5, v6]) k5 6 v6 rfl
  exact ⟨k6, (((((((b.setCell hR _).setCell hR _).setCell hR _).setCell hR _).setCell hR _).setCell hR _).setCell hR _)⟩
set_option maxHeartbeats 8000000 in
theorem claimed_ok (cap fr hn g u from_ n : Int) (h : 1 ≤ n ∧ n ≤ cap) (w : World) :
    Calls Tryd.prog 83 #[.agg #[.int .i64 cap, .bool true, .bool false, .int .u64 fr, .int .i64 hn, .int .i64 g, .int .i64 u], .int .u64 from_, .int .i64 n] w fun e w' => e = .returned (.tuple #[.agg #[.int .i64 cap, .bool true, .bool true, .int .u64 from_, .int .i64 n, .int .i64 g, .int .i64 u], .bool true]) ∧ Below w.heap.size w w' := by
  have HW := Aside.mk (below_alloc (below_alloc (Below.refl w.heap.size w) (.cells #[.int .i64 cap, .bool true, .bool false, .int .u64 fr, .int .i64 hn, .int .i64 g, .int .i64 u] 81)) (.cells #[.int .i64 0, .bool false, .bool false, .int .u64 0, .int .i64 0, .int .i64 0, .int .i64 0] 81))
  have HX := Aside.mk (blk_alloc (heap_alloc_new w (.cells #[.int .i64 cap, .bool true, .bool false, .int .u64 fr, .int .i64 hn, .int .i64 g, .int .i64 u] 81)) (.cells #[.int .i64 0, .bool false, .bool false, .int .u64 0, .int .i64 0, .int .i64 0, .int .i64 0] 81))
  have HE := heap_alloc_new (w.alloc (.cells #[.int .i64 cap, .bool true, .bool false, .int .u64 fr, .int .i64 hn, .int .i64 g, .int .i64 u] 81)) (.cells #[.int .i64 0, .bool false, .bool false, .int .u64 0, .int .i64 0, .int .i64 0, .int .i64 0] 81)
  rw [World.size_alloc] at HE
  have HEV := Aside.mk HE
  clear HE
  have t1 : decide (n < 1) = false := decide_eq_false (by omega)
  have t2 : decide (cap < n) = false := decide_eq_false (by omega)
  clear h
  go_enter Tryd.func83, Tryd.ntmps83
  go_upto_region 1 with (fail)
  generalize (w.alloc (.cells #[.int .i64 cap, .bool true, .bool false, .int .u64 fr, .int .i64 hn, .int .i64 g, .int .i64 u] 81)).alloc (.cells #[.int .i64 0, .bool false, .bool false, .int .u64 0, .int .i64 0, .int .i64 0, .int .i64 0] 81) = w2 at *
  obtain ⟨x0, x1, x2, x3, x4, x5, x6⟩ := cell7s HX.out
  have fz2 := blk_frozen HX.out 2
  have fz3 := blk_frozen HX.out 3
  have fz4 := blk_frozen HX.out 4
  go_upto_region 4 with (fail)
  clear x0 x1 x2 x3 x4 x5 x6 fz2 fz3 fz4
  have k0 := blk_put (cs' := #[.int .i64 cap, .bool true, .bool true, .int .u64 fr, .int .i64 hn, .int .i64 g, .int .i64 u]) HX.out 2 (.bool true) rfl
  have e0 := blk_far HEV.out (p := ⟨w.heap.size, 2, none⟩) (by show w.heap.size + 1 ≠ w.heap.size; omega) (.bool true)
  have b0 := Below.setCell HW.out (p := ⟨w.heap.size, 2, none⟩) (Nat.le_refl _) (.bool true)
  have k1 := blk_put (cs' := #[.int .i64 cap, .bool true, .bool true, .int .u64 from_, .int .i64 hn, .int .i64 g, .int .i64 u]) k0 3 (.int .u64 from_) rfl
  have e1 := blk_far e0 (p := ⟨w.heap.size, 3, none⟩) (by show w.heap.size + 1 ≠ w.heap.size; omega) (.int .u64 from_)
  have b1 := Below.setCell b0 (p := ⟨w.heap.size, 3, none⟩) (Nat.le_refl _) (.int .u64 from_)
  have k2 := blk_put (cs' := #[.int .i64 cap, .bool true, .bool true, .int .u64 from_, .int .i64 n, .int .i64 g, .int .i64 u]) k1 4 (.int .i64 n) rfl
  have e2 := blk_far e1 (p := ⟨w.heap.size, 4, none⟩) (by show w.heap.size + 1 ≠ w.heap.size; omega) (.int .i64 n)
  have b2 := Below.setCell b1 (p := ⟨w.heap.size, 4, none⟩) (Nat.le_refl _) (.int .i64 n)
  have HX2 := Aside.mk k2
  have HE2 := Aside.mk e2
  have HB2 := Aside.mk b2
  clear k0 e0 b0 k1 e1 b1 k2 e2 b2 HX HEV HW
  generalize ((w2.setCell ⟨w.heap.size, 2, none⟩ (.bool true)).setCell ⟨w.heap.size, 3, none⟩ (.int .u64 from_)).setCell ⟨w.heap.size, 4, none⟩ (.int .i64 n) = w3 at *
  obtain ⟨x0, x1, x2, x3, x4, x5, x6⟩ := cell7s HX2.out
  obtain ⟨d0, d1, d2, d3, d4, d5, d6⟩ := cell7s HE2.out
  have fz0 := blk_frozen HE2.out 0
  have fz1 := blk_frozen HE2.out 1
  have fz2 := blk_frozen HE2.out 2
  have fz3 := blk_frozen HE2.out 3
  have fz4 := blk_frozen HE2.out 4
  have fz5 := blk_frozen HE2.out 5
  have fz6 := blk_frozen HE2.out 6
  have HF := Aside.mk (set7b (.int .i64 cap) (.bool true) (.bool true) (.int .u64 from_) (.int .i64 n) (.int .i64 g) (.int .i64 u) HB2.out (Nat.le_succ _) HE2.out)
  go_wp2
  refine bodyPost_ret (results_ct rfl _ _ (w.heap.size + 1) 81 #[.int .i64 cap, .bool true, .bool true, .int .u64 from_, .int .i64 n, .int .i64 g, .int .i64 u] (0, 0) _ rfl HF.out.1 Tryd.underlying81 rfl (by kernel_rfl)) rfl ?_
  exact ⟨rfl, HF.out.2⟩
set_option maxHeartbeats 8000000 in
theorem published_ok (cap fr hn g u : Int) (w : World) :
    Calls Tryd.prog 86 #[.agg #[.int .i64 cap, .bool true, .bool true, .int .u64 fr, .int .i64 hn, .int .i64 g, .int .i64 u]] w fun e w' => e = .returned (.tuple #[.agg #[.int .i64 cap, .bool true, .bool false, .int .u64 0, .int .i64 0, .int .i64 g, .int .i64 u], .bool true]) ∧ Below w.heap.size w w' := by
  have HW := Aside.mk (below_alloc (below_alloc (Below.refl w.heap.size w) (.cells #[.int .i64 cap, .bool true, .bool true, .int .u64 fr, .int .i64 hn, .int .i64 g, .int .i64 u] 81)) (.cells #[.int .i64 0, .bool false, .bool false, .int .u64 0, .int .i64 0, .int .i64 0, .int .i64 0] 81))
  have HX := Aside.mk (blk_alloc (heap_alloc_new w (.cells #[.int .i64 cap, .bool true, .bool true, .int .u64 fr, .int .i64 hn, .int .i64 g, .int .i64 u] 81)) (.cells #[.int .i64 0, .bool false, .bool false, .int .u64 0, .int .i64 0, .int .i64 0, .int .i64 0] 81))
  have HE := heap_alloc_new (w.alloc (.cells #[.int .i64 cap, .bool true, .bool true, .int .u64 fr, .int .i64 hn, .int .i64 g, .int .i64 u] 81)) (.cells #[.int .i64 0, .bool false, .bool false, .int .u64 0, .int .i64 0, .int .i64 0, .int .i64 0] 81)
  rw [World.size_alloc] at HE
  have HEV := Aside.mk HE
  clear HE

  go_enter Tryd.func86, Tryd.ntmps86
  go_upto_region 1 with (fail)
  generalize (w.alloc (.cells #[.int .i64 cap, .bool true, .bool true, .int .u64 fr, .int .i64 hn, .int .i64 g, .int .i64 u] 81)).alloc (.cells #[.int .i64 0, .bool false, .bool false, .int .u64 0, .int .i64 0, .int .i64 0, .int .i64 0] 81) = w2 at *
  obtain ⟨x0, x1, x2, x3, x4, x5, x6⟩ := cell7s HX.out
  have fz2 := blk_frozen HX.out 2
  have fz3 := blk_frozen HX.out 3
  have fz4 := blk_frozen HX.out 4
  go_upto_region 4 with (fail)
  clear x0 x1 x2 x3 x4 x5 x6 fz2 fz3 fz4
  have k0 := blk_put (cs' := #[.int .i64 cap, .bool true, .bool false, .int .u64 fr, .int .i64 hn, .int .i64 g, .int .i64 u]) HX.out 2 (.bool false) rfl
  have e0 := blk_far HEV.out (p := ⟨w.heap.size, 2, none⟩) (by show w.heap.size + 1 ≠ w.heap.size; omega) (.bool false)
  have b0 := Below.setCell HW.out (p := ⟨w.heap.size, 2, none⟩) (Nat.le_refl _) (.bool false)
  have k1 := blk_put (cs' := #[.int .i64 cap, .bool true, .bool false, .int .u64 0, .int .i64 hn, .int .i64 g, .int .i64 u]) k0 3 (.int .u64 0) rfl
  have e1 := blk_far e0 (p := ⟨w.heap.size, 3, none⟩) (by show w.heap.size + 1 ≠ w.heap.size; omega) (.int .u64 0)
  have b1 := Below.setCell b0 (p := ⟨w.heap.size, 3, none⟩) (Nat.le_refl _) (.int .u64 0)
  have k2 := blk_put (cs' := #[.int .i64 cap, .bool true, .bool false, .int .u64 0, .int .i64 0, .int .i64 g, .int .i64 u]) k1 4 (.int .i64 0) rfl
  have e2 := blk_far e1 (p := ⟨w.heap.size, 4, none⟩) (by show w.heap.size + 1 ≠ w.heap.size; omega) (.int .i64 0)
  have b2 := Below.setCell b1 (p := ⟨w.heap.size, 4, none⟩) (Nat.le_refl _) (.int .i64 0)
  have HX2 := Aside.mk k2
  have HE2 := Aside.mk e2
  have HB2 := Aside.mk b2
  clear k0 e0 b0 k1 e1 b1 k2 e2 b2 HX HEV HW
  generalize ((w2.setCell ⟨w.heap.size, 2, none⟩ (.bool false)).setCell ⟨w.heap.size, 3, none⟩ (.int .u64 0)).setCell ⟨w.heap.size, 4, none⟩ (.int .i64 0) = w3 at *
  obtain ⟨x0, x1, x2, x3, x4, x5, x6⟩ := cell7s HX2.out
  obtain ⟨d0, d1, d2, d3, d4, d5, d6⟩ := cell7s HE2.out
  have fz0 := blk_frozen HE2.out 0
  have fz1 := blk_frozen HE2.out 1
  have fz2 := blk_frozen HE2.out 2
  have fz3 := blk_frozen HE2.out 3
  have fz4 := blk_frozen HE2.out 4
  have fz5 := blk_frozen HE2.out 5
  have fz6 := blk_frozen HE2.out 6
  have HF := Aside.mk (set7b (.int .i64 cap) (.bool true) (.bool false) (.int .u64 0) (.int .i64 0) (.int .i64 g) (.int .i64 u) HB2.out (Nat.le_succ _) HE2.out)
  go_wp2
  refine bodyPost_ret (results_ct rfl _ _ (w.heap.size + 1) 81 #[.int .i64 cap, .bool true, .bool false, .int .u64 0, .int .i64 0, .int .i64 g, .int .i64 u] (0, 0) _ rfl HF.out.1 Tryd.underlying81 rfl (by kernel_rfl)) rfl ?_
  exact ⟨rfl, HF.out.2⟩
set_option maxHeartbeats 8000000 in
theorem released_ok (cap fr hn g u n : Int) (h : 1 ≤ n ∧ n ≤ u - g) (hb : 0 ≤ g ∧ g ≤ u ∧ u ≤ 100000) (w : World) :
    Calls Tryd.prog 88 #[.agg #[.int .i64 cap, .bool false, .bool false, .int .u64 fr, .int .i64 hn, .int .i64 g, .int .i64 u], .int .i64 n] w fun e w' => e = .returned (.tuple #[.agg #[.int .i64 cap, .bool false, .bool false, .int .u64 fr, .int .i64 hn, .int .i64 (g + n), .int .i64 u], .bool true]) ∧ Below w.heap.size w w' := by
  have HW := Aside.mk (below_alloc (below_alloc (Below.refl w.heap.size w) (.cells #[.int .i64 cap, .bool false, .bool false, .int .u64 fr, .int .i64 hn, .int .i64 g, .int .i64 u] 81)) (.cells #[.int .i64 0, .bool false, .bool false, .int .u64 0, .int .i64 0, .int .i64 0, .int .i64 0] 81))
  have HX := Aside.mk (blk_alloc (heap_alloc_new w (.cells #[.int .i64 cap, .bool false, .bool false, .int .u64 fr, .int .i64 hn, .int .i64 g, .int .i64 u] 81)) (.cells #[.int .i64 0, .bool false, .bool false, .int .u64 0, .int .i64 0, .int .i64 0, .int .i64 0] 81))
  have HE := heap_alloc_new (w.alloc (.cells #[.int .i64 cap, .bool false, .bool false, .int .u64 fr, .int .i64 hn, .int .i64 g, .int .i64 u] 81)) (.cells #[.int .i64 0, .bool false, .bool false, .int .u64 0, .int .i64 0, .int .i64 0, .int .i64 0] 81)
  rw [World.size_alloc] at HE
  have HEV := Aside.mk HE
  clear HE
  have t1 : decide (n < 1) = false := decide_eq_false (by omega)
  have t2 : decide (u - g < n) = false := decide_eq_false (by omega)
  have ew1 : wrap64 (u - g) = u - g := w64 (by omega)
  have ew2 : IntKind.i64.wrap (u - g) = u - g := by rw [wrapE]; exact ew1
  have ew3 : wrap64 (g + n) = g + n := w64 (by omega)
  have ew4 : IntKind.i64.wrap (g + n) = g + n := by rw [wrapE]; exact ew3
  clear h hb
  go_enter Tryd.func88, Tryd.ntmps88
  go_upto_region 1 with (fail)
  generalize (w.alloc (.cells #[.int .i64 cap, .bool false, .bool false, .int .u64 fr, .int .i64 hn, .int .i64 g, .int .i64 u] 81)).alloc (.cells #[.int .i64 0, .bool false, .bool false, .int .u64 0, .int .i64 0, .int .i64 0, .int .i64 0] 81) = w2 at *
  obtain ⟨x0, x1, x2, x3, x4, x5, x6⟩ := cell7s HX.out
  have fz5 := blk_frozen HX.out 5
  go_upto_region 4 with (fail)
  clear x0 x1 x2 x3 x4 x5 x6 fz5
  have k0 := blk_put (cs' := #[.int .i64 cap, .bool false, .bool false, .int .u64 fr, .int .i64 hn, .int .i64 (g + n), .int .i64 u]) HX.out 5 (.int .i64 (g + n)) rfl
  have e0 := blk_far HEV.out (p := ⟨w.heap.size, 5, none⟩) (by show w.heap.size + 1 ≠ w.heap.size; omega) (.int .i64 (g + n))
  have b0 := Below.setCell HW.out (p := ⟨w.heap.size, 5, none⟩) (Nat.le_refl _) (.int .i64 (g + n))
  have HX2 := Aside.mk k0
  have HE2 := Aside.mk e0
  have HB2 := Aside.mk b0
  clear k0 e0 b0 HX HEV HW
  generalize w2.setCell ⟨w.heap.size, 5, none⟩ (.int .i64 (g + n)) = w3 at *
  obtain ⟨x0, x1, x2, x3, x4, x5, x6⟩ := cell7s HX2.out
  obtain ⟨d0, d1, d2, d3, d4, d5, d6⟩ := cell7s HE2.out
  have fz0 := blk_frozen HE2.out 0
  have fz1 := blk_frozen HE2.out 1
  have fz2 := blk_frozen HE2.out 2
  have fz3 := blk_frozen HE2.out 3
  have fz4 := blk_frozen HE2.out 4
  have fz5 := blk_frozen HE2.out 5
  have fz6 := blk_frozen HE2.out 6
  have HF := Aside.mk (set7b (.int .i64 cap) (.bool false) (.bool false) (.int .u64 fr) (.int .i64 hn) (.int .i64 (g + n)) (.int .i64 u) HB2.out (Nat.le_succ _) HE2.out)
  go_wp2
  refine bodyPost_ret (results_ct rfl _ _ (w.heap.size + 1) 81 #[.int .i64 cap, .bool false, .bool false, .int .u64 fr, .int .i64 hn, .int .i64 (g + n), .int .i64 u] (0, 0) _ rfl HF.out.1 Tryd.underlying81 rfl (by kernel_rfl)) rfl ?_
  exact ⟨rfl, HF.out.2⟩
end Go.Proofs.YtgibmlbdkijflaaDoor.So
set_option linter.unusedVariables false
set_option linter.unusedSimpArgs false
set_option maxRecDepth 100000
namespace Go.Proofs.YtgibmlbdkijflaaDoor.So
open Go.RowKit Go.Proofs.YtgibmlbdkijflaaDoorW.PrintWords Go.Proofs.YtgibmlbdkijflaaDoorW.PrintLast Go.Proofs.YtgibmlbdkijflaaDoorW.PrintMore
open Ow
open Mo (Aside Cx U64 I64 ints least run cutW plusW New below_low tn1 meas1 w64 i1 wrapE)
open QGc (checkC)
open Graph (checkG Gv)
def hR (cx : Cx) (st : Ls) (t : Nat) : List Value :=
  if t < cx.prod then [.int .i64 cx.cap, .bool true, .bool (decide (0 < (heldL st t).n)), .int .u64 (heldL st t).f, .int .i64 (heldL st t).n, .int .i64 0, .int .i64 0]
  else [.int .i64 cx.cap, .bool false, .bool false, .int .u64 0, .int .i64 0, .int .i64 (st.gate.getD (t - cx.prod) 0), .int .i64 (st.saw.getD (t - cx.prod) 0)]
def rowH (cx : Cx) (st : Ls) : List (List Value) := (List.range (cx.prod + cx.up.length)).map (hR cx st)
def allR (st : Ls) : List (List Value) := List.zipWith (fun p d => [.bool p, .int .i64 d]) st.put st.data
structure Rk where
  vr : Int
  wd : Int
  cp : Int
  pr : Int
  sa : Int
  U : Option Addr
  un : Nat
  uc : Nat
  A : Option Addr
  an : Nat
  ac : Nat
  L : Option Addr
  ln : Nat
  lc : Nat
  H : Option Addr
  hn : Nat
  hc : Nat
def rowsR (k : Rk) (cx : Cx) (st : Ls) : List Rw := [⟨Kd.raw 2, 123, .slice k.A k.an k.ac, allR st⟩, ⟨Kd.int .i64, 3, .slice k.L k.ln k.lc, st.slots⟩, ⟨Kd.raw 7, 81, .slice k.H k.hn k.hc, rowH cx st⟩]
def boxR (k : Rk) : Array Value := #[.int .i64 k.vr, .int .i64 k.wd, .int .i64 k.cp, .int .i64 k.pr, .int .u64 k.sa, .slice k.U k.un k.uc, .slice k.A k.an k.ac, .slice k.L k.ln k.lc, .slice k.H k.hn k.hc]
structure Rm (base : Nat) (w : World) (B : Nat) (k : Rk) (cx : Cx) (lp : Lp) (st : Ls) (i : Nat) : Prop where
  x : OW base w B 79 (rowsR k cx st)
  b : w.heap[B]? = some (.cells (boxR k) 79 (0, 0))
  u : Kd.F (Kd.slice 3 (Kd.int .i64)) w (fun q => q < base) k.U k.un (cx.up.map ints)
  s : Ks k.vr k.wd k.cp k.pr k.sa k.un k.uc cx lp
  wf : Wf cx st i
  i : i ≤ 1000
theorem Rm.below {base : Nat} {w W : World} {B : Nat} {k : Rk} {cx : Cx} {lp : Lp} {st : Ls} {i : Nat} (h : Rm base w B k cx lp st i) (b : Below w.heap.size w W) : Rm base W B k cx lp st i :=
  { h with x := h.x.below b, b := blk_below h.b b, u := Kd.F_below h.u b }
theorem Rm.move {base : Nat} {w W : World} {B : Nat} {k : Rk} {cx : Cx} {lp : Lp} {st : Ls} {i : Nat} (h : Rm base w B k cx lp st i) (hm : ∀ q, q < w.heap.size → (OwnB (rowsR k cx st) B q ∨ q < base) → W.heap[q]? = w.heap[q]?) : Rm base W B k cx lp st i :=
  { h with x := h.x.move (fun q hq => hm q (h.x.lt hq) (.inl hq)), b := (hm B (blk_lt h.b) (.inl (.inl rfl))).trans h.b, u := Kd.F_step h.u (fun q hq hl => hm q hl (.inr hq)) }
section
variable {base : Nat} {w : World} {B : Nat} {k : Rk} {cx : Cx} {lp : Lp} {st : Ls} {i : Nat}
theorem allR_len (st : Ls) (h : st.data.length = st.put.length) : (allR st).length = st.put.length := by unfold allR; rw [List.length_zipWith, h, Nat.min_self]
theorem Rm.gv (h : Rm base w B k cx lp st i) : Gv w k.U k.uc (cx.up.map ints) := by
  have hl : k.un = (cx.up.map ints).length := by rw [h.s.un, List.length_map]
  exact ⟨by have := Kd.F_now h.u; rw [hl] at this; exact this, by rw [List.length_map]; exact h.s.uc, h.s.sm⟩
theorem Rm.ns (h : Rm base w B k cx lp st i) : k.an = st.put.length ∧ k.ln = st.slots.length ∧ k.hn = cx.prod + cx.up.length := by
  have h0 : k.an = (allR st).length := (Kd.R_reads' (h.x.r 0 _ rfl)).1
  have h1 : k.ln = st.slots.length := (Kd.R_reads' (h.x.r 1 _ rfl)).1
  have h2 : k.hn = (rowH cx st).length := (Kd.R_reads' (h.x.r 2 _ rfl)).1
  rw [allR_len st h.wf.ld] at h0
  unfold rowH at h2
  rw [List.length_map, List.length_range] at h2
  exact ⟨h0, h1, h2⟩
theorem Rm.cells (h : Rm base w B k cx lp st i) : w.cell? ⟨B, 0, none⟩ = some (.int .i64 k.vr) ∧ w.cell? ⟨B, 1, none⟩ = some (.int .i64 k.wd) ∧ w.cell? ⟨B, 2, none⟩ = some (.int .i64 cx.cap) ∧ w.cell? ⟨B, 3, none⟩ = some (.int .i64 (cx.prod : Int)) ∧ w.cell? ⟨B, 4, none⟩ = some (.int .u64 k.sa) ∧ w.cell? ⟨B, 5, none⟩ = some (.slice k.U cx.up.length k.uc) ∧ w.cell? ⟨B, 6, none⟩ = some (.slice k.A st.put.length k.ac) ∧ w.cell? ⟨B, 7, none⟩ = some (.slice k.L st.slots.length k.lc) ∧ w.cell? ⟨B, 8, none⟩ = some (.slice k.H (cx.prod + cx.up.length) k.hc) := by
  have h1 := cell9 h.b
  obtain ⟨n0, n1, n2⟩ := h.ns
  rw [h.s.kcp, h.s.kpr, h.s.un, n0, n1, n2] at h1
  exact h1
theorem Rm.slot (h : Rm base w B k cx lp st i) (j : Nat) (hj : j < st.slots.length) : ∃ q, k.L = some ⟨q, 0, none⟩ ∧ base ≤ q ∧ w.cell? ⟨q, j, none⟩ = some (.int .i64 (st.slots.getD j 0)) ∧ w.frozen? ⟨q, j, none⟩ = false := by
  obtain ⟨q, h1, h2, _, h4, h5⟩ := h.x.int 1 rfl j hj
  exact ⟨q, h1, h2, h4, h5⟩
theorem Rm.all (h : Rm base w B k cx lp st i) (j : Nat) (hj : j < st.put.length) : ∃ q, k.A = some ⟨q, 0, none⟩ ∧ base ≤ q ∧ w.cell? ⟨q, j * 2, none⟩ = some (.bool (st.put.getD j false)) ∧ w.cell? ⟨q, j * 2 + 1, none⟩ = some (.int .i64 (st.data.getD j 0)) ∧ (∀ i, w.frozen? ⟨q, i, none⟩ = false) := by
  have hd : j < st.data.length := by rw [h.wf.ld]; exact hj
  have hl : j < (allR st).length := by rw [allR_len st h.wf.ld]; exact hj
  obtain ⟨q, h1, h2, _, h4, h5⟩ := h.x.raw 0 rfl j hl
  have e : (allR st)[j] = [.bool (st.put.getD j false), .int .i64 (st.data.getD j 0)] := by
    simp [allR, hj, hd]
  rw [e] at h4
  exact ⟨q, h1, h2, h4 0 _ rfl, h4 1 _ rfl, h5⟩
theorem Rm.hand (h : Rm base w B k cx lp st i) (t : Nat) (ht : t < cx.prod + cx.up.length) : ∃ q, k.H = some ⟨q, 0, none⟩ ∧ base ≤ q ∧ (∀ i u, (hR cx st t)[i]? = some u → w.cell? ⟨q, t * 7 + i, none⟩ = some u) ∧ (∀ i, w.frozen? ⟨q, i, none⟩ = false) := by
  have hl : t < (rowH cx st).length := by unfold rowH; rw [List.length_map, List.length_range]; exact ht
  obtain ⟨q, h1, h2, _, h4, h5⟩ := h.x.raw 2 rfl t hl
  have e : (rowH cx st)[t] = hR cx st t := by simp [rowH]
  rw [e] at h4
  exact ⟨q, h1, h2, h4, h5⟩
end
theorem r_there {base : Nat} {w : World} {B : Nat} {k : Rk} {cx : Cx} {lp : Lp} {st : Ls} {i : Nat} (h : Rm base w B k cx lp st i) (t : Int) :
    Calls Tryd.prog 12 #[.pointer (some ⟨B, 0, none⟩), .int .i64 t] w fun e w' => e = .returned (.bool (decide (0 ≤ t) && decide (t < ((cx.prod + cx.up.length : Nat) : Int)))) ∧ Below w.heap.size w w' := by
  obtain ⟨c0, c1, c2, c3, c4, c5, c6, c7, c8⟩ := h.cells
  clear h
  by_cases h0 : 0 ≤ t
  · have t1 : decide (0 ≤ t) = true := decide_eq_true h0
    rw [t1, Bool.true_and]
    clear h0
    generalize cx.prod + cx.up.length = n at *
    go_enter Tryd.func12, Tryd.ntmps12
    go_wp2
    go_ret
    exact ⟨rfl, Below.refl _ _⟩
  · have t1 : decide (0 ≤ t) = false := decide_eq_false h0
    rw [t1, Bool.false_and]
    clear h0
    go_enter Tryd.func12, Tryd.ntmps12
    go_wp2
    go_ret
    exact ⟨rfl, Below.refl _ _⟩
end Go.Proofs.YtgibmlbdkijflaaDoor.So
set_option linter.unusedVariables false
set_option linter.unusedSimpArgs false
set_option maxRecDepth 100000
namespace Go.Proofs.YtgibmlbdkijflaaDoor.So
open Go.RowKit Go.Proofs.YtgibmlbdkijflaaDoorW.PrintWords Go.Proofs.YtgibmlbdkijflaaDoorW.PrintLast Go.Proofs.YtgibmlbdkijflaaDoorW.PrintMore
open Ow
open Mo (Aside Cx U64 I64 ints least run cutW plusW New below_low tn1 meas1 w64 i1 wrapE)
open QGc (checkC)
open Graph (checkG Gv)
theorem rcells6 {base : Nat} {w : World} {B : Nat} {k : Rk} {cx : Cx} {lp : Lp} {st : Ls} {i : Nat} (h : Rm base w B k cx lp st i) : w.cell? ⟨B, 0, none⟩ = some (.int .i64 k.vr) ∧ w.cell? ⟨B, 1, none⟩ = some (.int .i64 k.wd) ∧ w.cell? ⟨B, 2, none⟩ = some (.int .i64 cx.cap) ∧ w.cell? ⟨B, 3, none⟩ = some (.int .i64 (cx.prod : Int)) ∧ w.cell? ⟨B, 4, none⟩ = some (.int .u64 k.sa) ∧ w.cell? ⟨B, 5, none⟩ = some (.slice k.U cx.up.length k.uc) ∧ True := by
  obtain ⟨c0, c1, c2, c3, c4, c5, c6, c7, c8⟩ := h.cells
  exact ⟨c0, c1, c2, c3, c4, c5, trivial⟩
theorem rstart6 {base : Nat} {w : World} {B : Nat} {k : Rk} {cx : Cx} {lp : Lp} {st : Ls} {i : Nat} (h : Rm base w B k cx lp st i) : Calls Tryd.prog 113 #[.agg #[.int .i64 k.vr, .int .i64 k.wd, .int .i64 cx.cap, .int .i64 (cx.prod : Int), .int .u64 k.sa, .slice k.U cx.up.length k.uc]] w fun e w' => e = .returned (.int .u64 (cutW k.wd k.sa)) ∧ Below w.heap.size w w' := by
  have h1 := Mo.start_c (v := k.vr) (n := k.wd) (c := k.cp) (p := k.pr) (s := k.sa) h.gv.rd h.gv.cap
  rw [List.length_map, h.s.kcp, h.s.kpr] at h1
  exact h1
theorem cut_u64 {n s : Int} (hn : n = 32 ∨ n = 64) (hs : U64 s) : U64 (cutW n s) := by
  obtain ⟨h1, h2⟩ := hs
  unfold cutW QWi.sakiaref01_Cut.f
  rcases hn with rfl | rfl
  · show U64 (Int.tmod s 4294967296)
    rw [Int.tmod_eq_emod_of_nonneg h1]
    exact ⟨by omega, by omega⟩
  · exact ⟨h1, h2⟩
set_option maxHeartbeats 4000000 in
theorem r_pos {base : Nat} {w : World} {B : Nat} {k : Rk} {cx : Cx} {lp : Lp} {st : Ls} {i : Nat} (h : Rm base w B k cx lp st i) (n : Int) :
    Calls Tryd.prog 84 #[.pointer (some ⟨B, 0, none⟩), .int .i64 n] w fun e w' => e = .returned (.int .u64 (lp.pos n)) ∧ Below w.heap.size w w' := by
  have HM := Aside.mk h
  have HP := Aside.mk (h.s.ps n)
  have HU := Aside.mk (cut_u64 (Mo.checkC_parts h.s.ck).1 h.s.us)
  clear h
  go_enter Tryd.func84, Tryd.ntmps84
  go_wp2_with fail
  refine start_ (n := 13) (S := fun w' => w'.cell? ⟨B, 0, none⟩ = some (.int .i64 k.vr) ∧ w'.cell? ⟨B, 1, none⟩ = some (.int .i64 k.wd) ∧ w'.cell? ⟨B, 2, none⟩ = some (.int .i64 cx.cap) ∧ w'.cell? ⟨B, 3, none⟩ = some (.int .i64 (cx.prod : Int)) ∧ w'.cell? ⟨B, 4, none⟩ = some (.int .u64 k.sa) ∧ w'.cell? ⟨B, 5, none⟩ = some (.slice k.U cx.up.length k.uc) ∧ True) (ds := []) (bm 13 0) (by kernel_rfl) rfl rfl (rcells6 (HM.out.below (below_drew1 (Below.refl _ _)))) (fun hHeld => ?_)
  replace HM := Aside.mk (HM.out.below (below_drew1 (Below.refl _ _)))
  have HW := Aside.mk (below_drew1 (Below.refl w.heap.size w))
  generalize w.drew = wa at *
  refine pu_ 0 (bm 13 1) ?_
  refine pu_ 1 (bm 13 3) ?_
  refine pu_ 2 (bm 13 7) ?_
  refine pu_ 3 (bm 13 15) ?_
  refine ta_ 4 (bm 13 31) hHeld ?_
  refine pu_ 5 (bm 13 63) ?_
  refine pu_ 6 (bm 13 127) ?_
  refine pu_ 7 (bm 13 255) ?_
  refine ta_ 8 (bm 13 511) hHeld ?_
  refine pu_ 10 (bm 13 1535) ?_
  refine one_ (i := 9) (N := some 14) (bm 13 2047) rfl rfl (by kernel_rfl) (by decide) (fun K hK => ?_)
  refine goes_ Tryd.func113 (by kernel_rfl) rfl #[.agg #[.int .i64 k.vr, .int .i64 k.wd, .int .i64 cx.cap, .int .i64 (cx.prod : Int), .int .u64 k.sa, .slice k.U cx.up.length k.uc]] (by rfl) rfl rfl (by (try simp only [List.map_toArray, List.map_cons, List.map_nil]); first | done | rfl) ?_
  refine (rstart6 HM.out).mono ?_
  rintro q wb ⟨rfl, hb⟩
  refine ⟨_, rfl, ?_⟩
  replace HM := Aside.mk (HM.out.below hb)
  replace HW := Aside.mk (HW.out.trans (hb.mono HW.out.size))
  clear hb
  refine hK.out _ _ (rcells6 HM.out) (fun hHeld => ?_)
  clear hK K
  refine norm_ (a' := ?_) ?_ ?_
  rotate_left
  · show Act.put _ (some 14) _ = _
    simp only [Act.put, List.setIfInBounds_toArray, List.set_cons_zero, List.set_cons_succ, i64_w, i32_w]
    rfl
  refine one_ (i := 11) (N := some 16) (bm 13 4095) rfl rfl (by kernel_rfl) (by decide) (fun K hK => ?_)
  refine goes_ Tryd.func112 (by kernel_rfl) rfl #[.int .i64 k.wd, .int .u64 (cutW k.wd k.sa), .int .i64 n] (by rfl) rfl rfl (by (try simp only [List.map_toArray, List.map_cons, List.map_nil]); first | done | rfl) ?_
  refine (Mo.rplus_c HU.out _).mono ?_
  rintro q wc ⟨rfl, hb⟩
  refine ⟨_, rfl, ?_⟩
  replace HM := Aside.mk (HM.out.below hb)
  replace HW := Aside.mk (HW.out.trans (hb.mono HW.out.size))
  clear hb
  refine hK.out _ _ (rcells6 HM.out) (fun hHeld => ?_)
  clear hK K
  refine norm_ (a' := ?_) ?_ ?_
  rotate_left
  · show Act.put _ (some 16) _ = _
    simp only [Act.put, List.setIfInBounds_toArray, List.set_cons_zero, List.set_cons_succ, i64_w, i32_w]
    rfl
  refine pu_ 12 (bm 13 8191) ?_
  refine done_ (by kernel_rfl) ?_
  clear hHeld
  go_wp2
  go_ret
  exact ⟨by rw [HP.out] <;> rfl, HW.out⟩
theorem slot_f {k : Rk} {cx : Cx} {lp : Lp} (h : Ks k.vr k.wd k.cp k.pr k.sa k.un k.uc cx lp) (n : Int) : QSo.sakiaref02_Slot.f cx.cap (lp.pos n) = some ((lp.sl n : Nat) : Int) := by
  have h1 := h.ls n
  have h2 := h.lb n
  have h3 := h.c64
  rw [h.kcp] at h1 h2
  have e : IntKind.u64.wrap cx.cap = cx.cap := by
    simp only [IntKind.wrap, IntKind.signed, IntKind.bits]
    first | omega | (simp; omega)
  unfold QSo.sakiaref02_Slot.f
  rw [e, if_neg (by omega), w64 (by omega)]
  congr 1
  omega
theorem slot_c {k : Rk} {cx : Cx} {lp : Lp} (h : Ks k.vr k.wd k.cp k.pr k.sa k.un k.uc cx lp) (n : Int) (w : World) : Calls Tryd.prog 114 #[.int .i64 cx.cap, .int .u64 (lp.pos n)] w fun e w' => e = .returned (.int .i64 ((lp.sl n : Nat) : Int)) ∧ Below w.heap.size w w' :=
  (QSo.sakiaref02_Slot.calls cx.cap (lp.pos n) _ w (slot_f h n)).mono fun e w' h => ⟨h.1, Mo.drawn_below h.2⟩
set_option maxHeartbeats 4000000 in
theorem r_slot {base : Nat} {w : World} {B : Nat} {k : Rk} {cx : Cx} {lp : Lp} {st : Ls} {i : Nat} (h : Rm base w B k cx lp st i) (n : Int) :
    Calls Tryd.prog 87 #[.pointer (some ⟨B, 0, none⟩), .int .i64 n] w fun e w' => e = .returned (.int .i64 ((lp.sl n : Nat) : Int)) ∧ Below w.heap.size w w' := by
  have HM := Aside.mk h
  clear h
  go_enter Tryd.func87, Tryd.ntmps87
  go_wp2_with fail
  refine start_ (n := 10) (S := fun w' => w'.cell? ⟨B, 0, none⟩ = some (.int .i64 k.vr) ∧ w'.cell? ⟨B, 1, none⟩ = some (.int .i64 k.wd) ∧ w'.cell? ⟨B, 2, none⟩ = some (.int .i64 cx.cap) ∧ w'.cell? ⟨B, 3, none⟩ = some (.int .i64 (cx.prod : Int)) ∧ w'.cell? ⟨B, 4, none⟩ = some (.int .u64 k.sa) ∧ w'.cell? ⟨B, 5, none⟩ = some (.slice k.U cx.up.length k.uc) ∧ True) (ds := []) (bm 10 0) (by kernel_rfl) rfl rfl (rcells6 (HM.out.below (below_drew1 (Below.refl _ _)))) (fun hHeld => ?_)
  replace HM := Aside.mk (HM.out.below (below_drew1 (Below.refl _ _)))
  have HW := Aside.mk (below_drew1 (Below.refl w.heap.size w))
  generalize w.drew = wa at *
  refine pu_ 0 (bm 10 1) ?_
  refine pu_ 1 (bm 10 3) ?_
  refine pu_ 2 (bm 10 7) ?_
  refine pu_ 3 (bm 10 15) ?_
  refine ta_ 4 (bm 10 31) hHeld ?_
  refine pu_ 5 (bm 10 63) ?_
  refine pu_ 6 (bm 10 127) ?_
  refine one_ (i := 7) (N := some 12) (bm 10 255) rfl rfl (by kernel_rfl) (by decide) (fun K hK => ?_)
  refine goes_ Tryd.func84 (by kernel_rfl) rfl #[.pointer (some ⟨B, 0, none⟩), .int .i64 n] (by rfl) rfl rfl (by (try simp only [List.map_toArray, List.map_cons, List.map_nil]); first | done | rfl) ?_
  refine (r_pos HM.out n).mono ?_
  rintro q wb ⟨rfl, hb⟩
  refine ⟨_, rfl, ?_⟩
  replace HM := Aside.mk (HM.out.below hb)
  replace HW := Aside.mk (HW.out.trans (hb.mono HW.out.size))
  clear hb
  refine hK.out _ _ (rcells6 HM.out) (fun hHeld => ?_)
  clear hK K
  refine norm_ (a' := ?_) ?_ ?_
  rotate_left
  · show Act.put _ (some 12) _ = _
    simp only [Act.put, List.setIfInBounds_toArray, List.set_cons_zero, List.set_cons_succ, i64_w, i32_w]
    rfl
  refine one_ (i := 8) (N := some 13) (bm 10 511) rfl rfl (by kernel_rfl) (by decide) (fun K hK => ?_)
  refine goes_ Tryd.func114 (by kernel_rfl) rfl #[.int .i64 cx.cap, .int .u64 (lp.pos n)] (by rfl) rfl rfl (by (try simp only [List.map_toArray, List.map_cons, List.map_nil]); first | done | rfl) ?_
  refine (slot_c HM.out.s n _).mono ?_
  rintro q wc ⟨rfl, hb⟩
  refine ⟨_, rfl, ?_⟩
  replace HM := Aside.mk (HM.out.below hb)
  replace HW := Aside.mk (HW.out.trans (hb.mono HW.out.size))
  clear hb
  refine hK.out _ _ (rcells6 HM.out) (fun hHeld => ?_)
  clear hK K
  refine norm_ (a' := ?_) ?_ ?_
  rotate_left
  · show Act.put _ (some 13) _ = _
    simp only [Act.put, List.setIfInBounds_toArray, List.set_cons_zero, List.set_cons_succ, i64_w, i32_w]
    rfl
  refine pu_ 9 (bm 10 1023) ?_
  refine done_ (by kernel_rfl) ?_
  clear hHeld
  go_wp2
  go_ret
  exact ⟨rfl, HW.out⟩
end Go.Proofs.YtgibmlbdkijflaaDoor.So
set_option linter.unusedVariables false
set_option linter.unusedSimpArgs false
set_option maxRecDepth 100000
namespace Go.Proofs.YtgibmlbdkijflaaDoor.So
open Go.RowKit Go.Proofs.YtgibmlbdkijflaaDoorW.PrintWords Go.Proofs.YtgibmlbdkijflaaDoorW.PrintLast Go.Proofs.YtgibmlbdkijflaaDoorW.PrintMore
open Ow
open Mo (Aside Cx U64 I64 ints least run cutW plusW New below_low tn1 meas1 w64 i1 wrapE)
open QGc (checkC)
open Graph (checkG Gv)
theorem Rm.gate {base : Nat} {w : World} {B : Nat} {k : Rk} {cx : Cx} {lp : Lp} {st : Ls} {i : Nat} (h : Rm base w B k cx lp st i) (x : Nat) (hx : x < cx.up.length) : ∃ q, k.H = some ⟨q, 0, none⟩ ∧ w.cell? ⟨q, (cx.prod + x) * 7 + 5, none⟩ = some (.int .i64 (st.gate.getD x 0)) := by
  obtain ⟨q, h1, _, h3, _⟩ := h.hand (cx.prod + x) (by omega)
  refine ⟨q, h1, h3 5 _ ?_⟩
  unfold hR
  rw [if_neg (by omega), Nat.add_sub_cancel_left]
  rfl
theorem Rm.row {base : Nat} {w : World} {B : Nat} {k : Rk} {cx : Cx} {lp : Lp} {st : Ls} {i : Nat} (h : Rm base w B k cx lp st i) (j : Nat) (hj : j < cx.up.length) : ∃ ad A0 c0, k.U = some ad ∧ w.cell? (ad.add j) = some (.slice A0 (cx.up.getD j []).length c0) ∧ (cx.up.getD j []).length ≤ c0 ∧ (Kd.int .i64).C w A0 (ints (cx.up.getD j [])).length (ints (cx.up.getD j [])) := by
  obtain ⟨_, _, h3⟩ := h.gv.rd
  obtain ⟨ad, e, hr⟩ := h3 (by rw [List.length_map]; omega)
  obtain ⟨cs, g1, ⟨A0, c0, g2, g4, g5⟩, g3⟩ := hr j _ (List.getElem?_eq_getElem (show j < (cx.up.map ints).length by rw [List.length_map]; exact hj))
  subst g2
  have h5 := g3 0 _ rfl
  have hz : (Kd.slice 3 (Kd.int .i64)).sz = 1 := rfl
  rw [hz, Nat.mul_one, Nat.add_zero] at h5
  have eu : (cx.up.map ints)[j]'(by rw [List.length_map]; exact hj) = ints (cx.up.getD j []) := by simp [hj]
  rw [eu] at h5 g4 g5
  rw [Mo.ints_len] at h5 g4
  exact ⟨ad, A0, c0, e, h5, g4, g5⟩
theorem leastP_one (g : List Int) (l : List Nat) (h : 0 < l.length) : Mo.leastP g l 1 = Mo.leastP g l 0 := by
  rw [Mo.leastP_succ g l 0 h]
  cases l with
  | nil => exact absurd h (Nat.lt_irrefl 0)
  | cons x r => show min (g.getD x 0) (g.getD x 0) = g.getD x 0; omega
theorem idx_nat (p x m : Nat) (h : m = p + x) (hb : p + x < 4611686018427387904) : IntKind.i64.wrap ((p : Int) + (x : Int)) = (m : Int) ∧ wrap64 ((p : Int) + (x : Int)) = (m : Int) := by
  have h1 : wrap64 ((p : Int) + (x : Int)) = (m : Int) := by rw [w64 (by omega)]; omega
  exact ⟨by rw [wrapE]; exact h1, h1⟩
set_option maxHeartbeats 4000000 in
theorem r_least {base : Nat} {w : World} {B : Nat} {k : Rk} {cx : Cx} {lp : Lp} {st : Ls} {i : Nat} (h : Rm base w B k cx lp st i) (A : Option Addr) (C : Nat) (l : List Nat) (hl : (Kd.int .i64).C w A (ints l).length (ints l)) (hC : l.length ≤ C) (hne : l ≠ []) (hn : l.length ≤ 1000) (hb : ∀ x ∈ l, x < cx.up.length) :
    Calls Tryd.prog 44 #[.pointer (some ⟨B, 0, none⟩), .slice A l.length C] w fun e w' => e = .returned (.int .i64 (least st.gate l)) ∧ Below w.heap.size w w' := by
  have HM := Aside.mk h
  have HL := Aside.mk hl
  have HN := Aside.mk hn
  have HB := Aside.mk hb
  have HPB := Aside.mk (show cx.prod ≤ 4 ∧ cx.up.length ≤ 6 from ⟨h.s.p4.2, h.s.u6.2⟩)
  have hpos : 0 < l.length := List.length_pos_iff.2 hne
  have HP := Aside.mk hpos
  obtain ⟨ad, rfl, hx⟩ := Mo.nat_at hl 0 hpos
  rw [show ad.add 0 = ad by simp [Addr.add]] at hx
  have hc0 : l[0] < cx.up.length := hb _ (List.getElem_mem hpos)
  obtain ⟨hq, eg, hy⟩ := h.gate l[0] hc0
  obtain ⟨c0, c1, c2, c3, c4, c5, c6, c7, c8⟩ := h.cells
  rw [eg] at c8
  obtain ⟨m, hm⟩ : ∃ m, m = cx.prod + l[0] := ⟨_, rfl⟩
  obtain ⟨ew1, ew2⟩ := idx_nat cx.prod l[0] m hm (by have := HPB.out; omega)
  rw [← hm] at hy
  obtain ⟨nn, hnn⟩ : ∃ nn, nn = cx.prod + cx.up.length := ⟨_, rfl⟩
  rw [← hnn] at c8
  have HNN := Aside.mk hnn
  have g1 : decide ((m : Int) < (nn : Int)) = true := decide_eq_true (by omega)
  have g2 : (m : Int) < (nn : Int) := by omega
  have g3 : decide (m < nn) = true := decide_eq_true (by omega)
  have HL0 := Aside.mk (show Mo.leastP st.gate l 0 = st.gate.getD l[0] 0 by
    cases l with
    | nil => exact absurd rfl hne
    | cons x r => rfl)
  have HEG := Aside.mk eg
  clear hm
  generalize l[0] = x0 at *
  generalize st.gate.getD x0 0 = gx0 at *
  have r1 : decide ((0 : Int) < (l.length : Int)) = true := decide_eq_true (by omega)
  have r2 : decide (0 < l.length) = true := decide_eq_true hpos
  clear h hl hC hne hn hb eg hnn
  go_enter Tryd.func44, Tryd.ntmps44
  go_wp2_with fail
  go_region
  rw [← HL0.out]
  clear hx hy g1 g2 g3 hc0 hpos r1 r2 ew1 ew2 c0 c1 c2 c3 c4 c5 c6 c7 c8
  go_wp2_with fail
  go_loopw [5, 6] (fun n x wr => ∃ i : Nat, 1 ≤ i ∧ i ≤ l.length ∧ n = .int .i64 (Mo.leastP st.gate l i) ∧ x = .int .i64 i ∧ Mo.Aside (Below w.heap.size w wr)) (fun _ x _ => l.length - (intOf x).toNat)
  case atStart => exact ⟨1, Nat.le_refl _, HP.out, by rw [leastP_one _ _ HP.out], rfl, ⟨below_drew1 (Below.refl _ _)⟩⟩
  case round =>
    obtain ⟨i, hi1, hi, rfl, rfl, HBW⟩ := hrel
    by_cases hlt : i < l.length
    · have t1 : decide ((i : Int) < (l.length : Int)) = true := decide_eq_true (by omega)
      have t2 : decide (i < l.length) = true := decide_eq_true hlt
      have t3 : (i : Int) < (l.length : Int) := by omega
      have HLT := Aside.mk hlt
      have HI1 := Aside.mk hi1
      have ei := i1 (show i < 4611686018427387904 by have := HN.out; omega)
      obtain ⟨ad2, ead, hx⟩ := Mo.nat_at (Kd.F_now (Kd.F_below (Kd.C_F (Kd.heap_int .i64) HL.out) HBW.out)) i hlt
      injection ead with ead
      subst ead
      have hc0 : l[i] < cx.up.length := HB.out _ (List.getElem_mem hlt)
      have hmw := HM.out.below HBW.out
      obtain ⟨gd2, eg2, hy⟩ := hmw.gate l[i] hc0
      obtain ⟨c0, c1, c2, c3, c4, c5, c6, c7, c8⟩ := hmw.cells
      rw [HEG.out] at eg2
      injection eg2 with eg2
      injection eg2 with eg2
      subst eg2
      rw [HEG.out] at c8
      obtain ⟨m, hm⟩ : ∃ m, m = cx.prod + l[i] := ⟨_, rfl⟩
      obtain ⟨ew1, ew2⟩ := idx_nat cx.prod l[i] m hm (by have := HPB.out; omega)
      rw [← hm] at hy
      have hnn := HNN.out
      rw [← hnn] at c8
      have g1 : decide ((m : Int) < (nn : Int)) = true := decide_eq_true (by omega)
      have g2 : (m : Int) < (nn : Int) := by omega
      have g3 : decide (m < nn) = true := decide_eq_true (by omega)
      have HTK := Aside.mk (Mo.leastP_succ st.gate l i hlt)
      clear hm hnn hmw
      generalize l[i] = x at *
      generalize Mo.leastP st.gate l i = tk at *
      generalize st.gate.getD x 0 = gx at *
      clear hlt hi hc0 hi1
      go_wp2_with fail
      go_region
      go_wp2_with fail
      go_roundw
      case rel => exact ⟨i + 1, Nat.le_add_left _ _, HLT.out, by rw [HTK.out]; exact congrArg (Value.int .i64) (by first | rfl | (split <;> omega) | omega), by first | rfl | simp, ⟨below_drew1 HBW.out⟩⟩
      case measure =>
        simp only [intOf, tn1, Int.toNat_natCast]
        exact meas1 HLT.out
    · obtain rfl : i = l.length := by omega
      have t1 : decide ((l.length : Int) < (l.length : Int)) = false := decide_eq_false (by omega)
      have t2 : decide (l.length < l.length) = false := decide_eq_false (by omega)
      rw [Mo.leastP_all]
      clear hi hlt hi1
      go_wp2
      go_ret
      exact ⟨rfl, HBW.out⟩
set_option maxHeartbeats 4000000 in
theorem r_limit {base : Nat} {w : World} {B : Nat} {k : Rk} {cx : Cx} {lp : Lp} {st : Ls} {i : Nat} (h : Rm base w B k cx lp st i) (j : Nat) (hj : j < cx.up.length) :
    Calls Tryd.prog 89 #[.pointer (some ⟨B, 0, none⟩), .int .i64 (j : Int)] w fun e w' => e = .returned (.int .i64 (limitL cx st j)) ∧ Below w.heap.size w w' := by
  obtain ⟨ad, A0, c0', eU, hx, hc0, hrow⟩ := h.row j hj
  have HUB := Aside.mk (show ∀ x ∈ cx.up.getD j [], x < cx.up.length from fun x hx => by
    rw [List.getD_eq_getElem?_getD, List.getElem?_eq_getElem hj] at hx
    exact h.s.ub _ (List.getElem_mem hj) x hx)
  have HSM := Aside.mk (show (cx.up.getD j []).length ≤ 20 by
    rw [List.getD_eq_getElem?_getD, List.getElem?_eq_getElem hj]
    exact h.s.ul _ (List.getElem_mem hj))
  have HLIM := Aside.mk (show limitL cx st j = if cx.up.getD j [] = [] then (run st.put : Int) else least st.gate (cx.up.getD j []) from rfl)
  have HPL := Aside.mk (fun (hne : cx.up.getD j [] ≠ []) => r_least h A0 c0' (cx.up.getD j []) hrow hc0 hne (by have := HSM.out; omega) HUB.out)
  have HH := Aside.mk h
  have HPN := Aside.mk (show st.put.length ≤ 64000 by have := h.wf.tk; have := h.i; omega)
  obtain ⟨c0, c1, c2, c3, c4, c5, c6, c7, c8⟩ := h.cells
  rw [eU] at c5
  have g1 : decide ((j : Int) < (cx.up.length : Int)) = true := decide_eq_true (by omega)
  have g2 : (j : Int) < (cx.up.length : Int) := by omega
  have g3 : decide (j < cx.up.length) = true := decide_eq_true hj
  generalize cx.up.getD j [] = row at *
  clear h hj hc0 hrow eU
  go_enter Tryd.func89, Tryd.ntmps89
  by_cases hr : row = []
  rotate_left
  · have r1 : decide ((0 : Int) < (row.length : Int)) = true := decide_eq_true (by have := List.length_pos_iff.2 hr; omega)
    have r2 : decide (0 < row.length) = true := decide_eq_true (List.length_pos_iff.2 hr)
    have r3 : (row.length : Int) > 0 := by have := List.length_pos_iff.2 hr; omega
    rw [if_neg hr] at HLIM
    have HP := Aside.mk (HPL.out hr)
    clear hr HPL
    go_wp2_with fail
    refine HP.out.mono ?_
    rintro r w3 ⟨rfl, hb⟩
    go_wp2
    go_ret
    exact ⟨by rw [HLIM.out] <;> rfl, hb⟩
  have r1 : decide ((0 : Int) < (row.length : Int)) = false := decide_eq_false (by rw [hr]; simp)
  have r2 : decide (0 < row.length) = false := decide_eq_false (by rw [hr]; simp)
  rw [if_pos hr] at HLIM
  clear hr HPL
  go_wp2_with fail
  clear r1 r2 g1 g2 g3 hx
  go_loopw [5] (fun x wr => ∃ n : Nat, x = .int .i64 (n : Int) ∧ n ≤ run st.put ∧ wr = w) (fun x _ => st.put.length - (intOf x).toNat)
  case atStart => exact ⟨0, rfl, Nat.zero_le _, rfl⟩
  case round =>
    obtain ⟨n, rfl, hn, rfl⟩ := hrel
    have hle := Mo.run_le st.put
    have en := i1 (show n < 4611686018427387904 by have := HPN.out; omega)
    by_cases hlt : n < st.put.length
    rotate_left
    · have t1 : decide ((n : Int) < (st.put.length : Int)) = false := decide_eq_false (by omega)
      have t2 : decide (n < st.put.length) = false := decide_eq_false hlt
      have HN := Aside.mk (show (st.put.length : Int) = (run st.put : Int) by omega)
      clear hn hle hlt
      go_wp2
      go_ret
      exact ⟨by rw [HLIM.out, HN.out] <;> rfl, Below.refl _ _⟩
    have t1 : decide ((n : Int) < (st.put.length : Int)) = true := decide_eq_true (by omega)
    have t2 : decide (n < st.put.length) = true := decide_eq_true hlt
    have t3 : (n : Int) < (st.put.length : Int) := by omega
    obtain ⟨pq, eP, _, hy, _, _⟩ := HH.out.all n hlt
    rw [eP] at c6
    cases hb : st.put.getD n false with
    | true =>
      rw [hb] at hy
      have HN := Aside.mk (run_at hn hlt hb)
      have HLE := Aside.mk (Nat.lt_of_lt_of_le HN.out hle)
      clear hn hle hlt hb eP
      go_wp2_with fail
      go_roundw
      case rel => exact ⟨n + 1, by first | rfl | simp, HN.out, by first | rfl | trivial⟩
      case measure =>
        simp only [intOf, tn1, Int.toNat_natCast]
        exact meas1 HLE.out
    | false =>
      rw [hb] at hy
      have HN := Aside.mk (show (n : Int) = (run st.put : Int) by have := run_stop hn hb; omega)
      clear hn hle hlt hb eP
      go_wp2
      go_ret
      exact ⟨by rw [HLIM.out, HN.out] <;> rfl, Below.refl _ _⟩
theorem r_may {base : Nat} {w : World} {B : Nat} {k : Rk} {cx : Cx} {lp : Lp} {st : Ls} {i : Nat} (h : Rm base w B k cx lp st i) (t : Nat) (ht : t < cx.prod + cx.up.length) (c : Cl) (A : Option Addr) (C : Nat) (w2 : World) :
    Calls Tryd.prog 43 #[.agg (hR cx st t).toArray, .agg #[.int .i64 c.op, .int .i64 c.n, .slice A c.data.length C]] w2 fun e w' => e = .returned (.int .i64 (codeL cx st t c)) ∧ Below w2.heap.size w2 w' := by
  unfold hR
  by_cases hp : t < cx.prod
  · rw [if_pos hp]
    refine (may_true cx.cap (decide (0 < (heldL st t).n)) (heldL st t).f (heldL st t).n 0 0 (by omega) c A C w2).mono ?_
    rintro r w3 ⟨rfl, hb⟩
    refine ⟨?_, hb⟩
    congr 2
    have hw := h.wf.hw t hp
    have h0 : 0 ≤ (heldL st t).n := by
      rcases hw with e | e
      · rw [e]; exact Int.le_refl _
      · omega
    unfold mayC codeL
    rw [if_pos rfl, if_pos hp]
    by_cases hn : 0 < (heldL st t).n
    · rw [decide_eq_true hn]
      simp only [if_true, if_pos (show (heldL st t).n > 0 from hn), if_neg (show ¬ (heldL st t).n = 0 by omega)]
      rfl
    · rw [decide_eq_false hn]
      simp only [if_neg (show ¬ (heldL st t).n > 0 from hn), if_pos (show (heldL st t).n = 0 by omega)]
      rfl
  · rw [if_neg hp]
    obtain ⟨kc, rfl⟩ : ∃ kc, t = cx.prod + kc := ⟨t - cx.prod, by omega⟩
    have hk : kc < cx.up.length := by omega
    have hb : -100000 ≤ st.saw.getD (cx.prod + kc - cx.prod) 0 - st.gate.getD (cx.prod + kc - cx.prod) 0 ∧ st.saw.getD (cx.prod + kc - cx.prod) 0 - st.gate.getD (cx.prod + kc - cx.prod) 0 ≤ 100000 := by
      rw [Nat.add_sub_cancel_left]
      have := h.wf.gs kc
      have := h.wf.g0 kc
      have := h.wf.sp kc
      have := h.wf.tk
      have := h.i
      omega
    refine (may_false cx.cap false 0 0 _ _ hb c A C w2).mono ?_
    rintro r w3 ⟨rfl, hb⟩
    refine ⟨?_, hb⟩
    congr 2
    unfold mayC codeL
    rw [if_neg (by decide), if_neg hp]
theorem hR_shape (cx : Cx) (st : Ls) (t : Nat) : ∃ v0 v1 v2 v3 v4 v5 v6 : Value, hR cx st t = [v0, v1, v2, v3, v4, v5, v6] := by
  unfold hR
  split
  · exact ⟨_, _, _, _, _, _, _, rfl⟩
  · exact ⟨_, _, _, _, _, _, _, rfl⟩
theorem rends_c {base : Nat} {w : World} {B : Nat} {k : Rk} {cx : Cx} {lp : Lp} {st : Ls} {i : Nat} (h : Rm base w B k cx lp st i) (he : Graph.endsI (cx.up.map ints) = ints cx.ends) : Calls Tryd.prog 45 #[.slice k.U cx.up.length k.uc] w fun e w' => ∃ A' c', e = .returned (.slice A' cx.ends.length c') ∧ (Kd.int .i64).C w' A' (ints cx.ends).length (ints cx.ends) ∧ cx.ends.length ≤ c' ∧ Below w.heap.size w w' := by
  have h1 := Graph.ref_ends h.gv (Graph.fine_of (Mo.checkC_parts h.s.ck).2.2.2)
  rw [he, List.length_map, Mo.ints_len] at h1
  refine h1.mono ?_
  rintro r w3 ⟨A', c', e1, e2, e3⟩
  exact ⟨A', c', e1, e2.rd, by have := e2.cap; rw [Mo.ints_len] at this; exact this, e3⟩
theorem rleast_bd {base : Nat} {w : World} {B : Nat} {k : Rk} {cx : Cx} {lp : Lp} {st : Ls} {i : Nat} (h : Rm base w B k cx lp st i) : 0 ≤ least st.gate cx.ends ∧ least st.gate cx.ends ≤ st.put.length := by
  refine ⟨least_ge h.s.en (fun c _ => h.wf.g0 c), ?_⟩
  obtain ⟨c, r, hc⟩ := List.exists_cons_of_ne_nil h.s.en
  have h1 := least_mem (g := st.gate) (l := cx.ends) (c := c) (by rw [hc]; exact List.mem_cons_self ..)
  have := h.wf.gs c
  have := h.wf.sp c
  omega
theorem sz_bd {base : Nat} {w : World} {B : Nat} {k : Rk} {cx : Cx} {lp : Lp} {st : Ls} {i : Nat} (h : Rm base w B k cx lp st i) {t : Nat} (ht : t < cx.prod + cx.up.length) {c : Cl} (ho : c.op = 1 ∨ c.op = 5) (hc : codeL cx st t c = 0) : 1 ≤ szC c ∧ szC c ≤ 64 := by
  have h64 := h.s.c64
  by_cases hp : t < cx.prod
  · rcases code_prod hp hc with ⟨_, h1, h2, _⟩ | ⟨h1, _⟩
    · omega
    · omega
  · rcases code_cons hp hc with ⟨h1, _⟩ | ⟨h1, _⟩ | h1 <;> omega
set_option maxHeartbeats 8000000 in
theorem r_waits {base : Nat} {w : World} {B : Nat} {k : Rk} {cx : Cx} {lp : Lp} {st : Ls} {i : Nat} (h : Rm base w B k cx lp st i) (he : Graph.endsI (cx.up.map ints) = ints cx.ends) (t : Nat) (ht : t < cx.prod + cx.up.length) (c : Cl) (A : Option Addr) (C : Nat) :
    Calls Tryd.prog 15 #[.pointer (some ⟨B, 0, none⟩), .int .i64 (t : Int), .agg #[.int .i64 c.op, .int .i64 c.n, .slice A c.data.length C]] w fun e w' => e = .returned (.bool (decide (waitsL cx st t c))) ∧ Below w.heap.size w w' := by
  have hb0 := below_alloc (Below.refl w.heap.size w) (.cells #[.int .i64 c.op, .int .i64 c.n, .slice A c.data.length C] 39)
  have HY := Aside.mk (heap_alloc_new w (.cells #[.int .i64 c.op, .int .i64 c.n, .slice A c.data.length C] 39))
  have HM := Aside.mk (h.below hb0)
  have HE := Aside.mk he
  have HW := Aside.mk hb0
  have HT := Aside.mk ht
  obtain ⟨v0, v1, v2, v3, v4, v5, v6, hv7⟩ := hR_shape cx st t
  have HV7 := Aside.mk hv7
  obtain ⟨nn, hnn⟩ : ∃ nn, nn = cx.prod + cx.up.length := ⟨_, rfl⟩
  have HNN := Aside.mk hnn
  have g1 : decide ((t : Int) < (nn : Int)) = true := decide_eq_true (by omega)
  have g2 : (t : Int) < (nn : Int) := by omega
  have g3 : decide (t < nn) = true := decide_eq_true (by omega)
  clear hb0 h ht he hv7 hnn
  go_enter Tryd.func15, Tryd.ntmps15
  go_upto_region 1 with (fail)
  generalize w.alloc (.cells #[.int .i64 c.op, .int .i64 c.n, .slice A c.data.length C] 39) = w2 at *
  obtain ⟨y0, y1, y2⟩ := cell3 HY.out
  by_cases hv : c.op = 1
  · have o1 : (c.op == 1) = true := by rw [hv]; rfl
    have n1 : (c.op != 1) = false := by rw [hv]; rfl
    have o5 : (c.op == 5) = false := by rw [hv]; rfl
    have n5 : (c.op != 5) = true := by rw [hv]; rfl
    have HOP := Aside.mk hv
    have HSC := Aside.mk (show szC c = c.n by unfold szC; rw [hv]; rfl)
    clear hv
    go_wp2_with fail
    clear y0 y1 y2
    obtain ⟨q, eH, _, hh, _⟩ := HM.out.hand t HT.out
    rw [HV7.out] at hh
    have HEH := Aside.mk eH
    have HS := Aside.mk (show ∀ W : World, Below w2.heap.size w2 W → W.heap[w.heap.size]? = some (.cells #[.int .i64 c.op, .int .i64 c.n, .slice A c.data.length C] 39 (0, 0)) → W.cell? ⟨w.heap.size, 0, none⟩ = some (.int .i64 c.op) ∧ W.cell? ⟨w.heap.size, 1, none⟩ = some (.int .i64 c.n) ∧ W.cell? ⟨w.heap.size, 2, none⟩ = some (.slice A c.data.length C) ∧ W.cell? ⟨B, 8, none⟩ = some (.slice (some ⟨q, 0, none⟩) nn k.hc) ∧ W.cell? ⟨q, t * 7, none⟩ = some v0 ∧ W.cell? ⟨q, t * 7 + 1, none⟩ = some v1 ∧ W.cell? ⟨q, t * 7 + 2, none⟩ = some v2 ∧ W.cell? ⟨q, t * 7 + 3, none⟩ = some v3 ∧ W.cell? ⟨q, t * 7 + 4, none⟩ = some v4 ∧ W.cell? ⟨q, t * 7 + 5, none⟩ = some v5 ∧ W.cell? ⟨q, t * 7 + 6, none⟩ = some v6 ∧ True from fun W hb hy => by
      have h8 := (HM.out.below hb).cells.2.2.2.2.2.2.2.2
      rw [HEH.out, ← HNN.out] at h8
      have go : ∀ {p : Addr} {v : Value}, w2.cell? p = some v → W.cell? p = some v := fun hp => (hb.cell (World.block_lt_of_cell? _ _ hp)).trans hp
      exact ⟨(blk_cell hy 0).trans rfl, (blk_cell hy 1).trans rfl, (blk_cell hy 2).trans rfl, h8, go (hh 0 _ rfl), go (hh 1 _ rfl), go (hh 2 _ rfl), go (hh 3 _ rfl), go (hh 4 _ rfl), go (hh 5 _ rfl), go (hh 6 _ rfl), trivial⟩)
    clear hh eH
    have HMAY := Aside.mk (fun w2 => r_may HM.out t HT.out c A C w2)
    rw [HV7.out] at HMAY
    refine start_ (n := 20) (S := fun w' => w'.cell? ⟨w.heap.size, 0, none⟩ = some (.int .i64 c.op) ∧ w'.cell? ⟨w.heap.size, 1, none⟩ = some (.int .i64 c.n) ∧ w'.cell? ⟨w.heap.size, 2, none⟩ = some (.slice A c.data.length C) ∧ w'.cell? ⟨B, 8, none⟩ = some (.slice (some ⟨q, 0, none⟩) nn k.hc) ∧ w'.cell? ⟨q, t * 7, none⟩ = some v0 ∧ w'.cell? ⟨q, t * 7 + 1, none⟩ = some v1 ∧ w'.cell? ⟨q, t * 7 + 2, none⟩ = some v2 ∧ w'.cell? ⟨q, t * 7 + 3, none⟩ = some v3 ∧ w'.cell? ⟨q, t * 7 + 4, none⟩ = some v4 ∧ w'.cell? ⟨q, t * 7 + 5, none⟩ = some v5 ∧ w'.cell? ⟨q, t * 7 + 6, none⟩ = some v6 ∧ True) (ds := []) (bm 20 0) (by kernel_rfl) rfl rfl (HS.out _ (below_drew1 (Below.refl _ _)) (blk_drew HY.out)) (fun hHeld => ?_)
    have hb := below_drew1 (Below.refl w2.heap.size w2)
    replace HM := Aside.mk (HM.out.below hb)
    replace HW := Aside.mk (HW.out.trans (hb.mono HW.out.size))
    replace HY := Aside.mk (blk_below HY.out hb)
    have HB2 := Aside.mk hb
    clear hb
    generalize w2.drew = w3 at *
    refine pu_ 0 (bm 20 1) ?_
    refine ta_ 1 (bm 20 3) hHeld ?_
    refine pu_ 2 (bm 20 7) ?_
    refine pu_ 3 (bm 20 15) ?_
    refine of_ 4 (bm 20 31) ?_
    refine of_ 5 (bm 20 63) ?_
    refine of_ 6 (bm 20 127) ?_
    refine pu_ 7 (bm 20 255) ?_
    refine pu_ 8 (bm 20 511) ?_
    refine pu_ 9 (bm 20 1023) ?_
    refine pu_ 10 (bm 20 2047) ?_
    refine pu_ 11 (bm 20 4095) ?_
    refine ta_ 12 (bm 20 8191) hHeld ?_
    refine pu_ 13 (bm 20 16383) ?_
    refine pu_ 14 (bm 20 32767) ?_
    refine ta_ 15 (bm 20 65535) hHeld ?_
    refine ta_ 16 (bm 20 131071) hHeld ?_
    refine one_ (i := 17) (N := some 33) (bm 20 262143) rfl rfl (by kernel_rfl) (by decide) (fun K hK => ?_)
    refine goes_ Tryd.func43 (by kernel_rfl) rfl #[.agg #[v0, v1, v2, v3, v4, v5, v6], .agg #[.int .i64 c.op, .int .i64 c.n, .slice A c.data.length C]] (by rfl) rfl rfl (by (try simp only [List.map_toArray, List.map_cons, List.map_nil]); first | done | rfl) ?_
    refine (HMAY.out _).mono ?_
    rintro q wm ⟨rfl, hb⟩
    refine ⟨_, rfl, ?_⟩
    have HS := Aside.mk (HS.out _ (HB2.out.trans (hb.mono HB2.out.size)) (blk_below HY.out hb))
    replace HM := Aside.mk (HM.out.below hb)
    replace HW := Aside.mk (HW.out.trans (hb.mono HW.out.size))
    replace HY := Aside.mk (blk_below HY.out hb)
    clear hb
    refine hK.out _ _ HS.out (fun hHeld => ?_)
    clear hK K
    refine norm_ (a' := ?_) ?_ ?_
    rotate_left
    · show Act.put _ (some 33) _ = _
      simp only [Act.put, List.setIfInBounds_toArray, List.set_cons_zero, List.set_cons_succ, i64_w, i32_w]
      rfl
    refine pu_ 18 (bm 20 524287) ?_
    refine pu_ 19 (bm 20 1048575) ?_
    refine done_ (by kernel_rfl) ?_
    clear hHeld
    by_cases hc : codeL cx st t c = 0
    rotate_left
    · have t1 : (codeL cx st t c != 0) = true := by simpa using hc
      have HV := Aside.mk (show decide (waitsL cx st t c) = false from decide_eq_false (fun h => hc h.2.1))
      clear hc
      generalize codeL cx st t c = cod at *
      go_wp2
      go_ret
      exact ⟨by rw [HV.out] <;> rfl, HW.out⟩
    have t1 : (codeL cx st t c != 0) = false := by rw [hc]; rfl
    have HSZ := Aside.mk (show 1 ≤ szC c ∧ szC c ≤ 64 from sz_bd HM.out HT.out (by have := HOP.out; omega) hc)
    have HV := Aside.mk (show Ending.returned (.bool (decide (cx.cap + least st.gate cx.ends < (st.put.length : Int) + szC c))) = .returned (.bool (decide (waitsL cx st t c))) from by
      congr 2
      exact decide_eq_decide.2 ⟨fun h => ⟨by have := HOP.out; omega, hc, by omega⟩, fun h => by have := h.2.2; omega⟩)
    clear hc
    generalize codeL cx st t c = cod at *
    skip
    go_wp2_with fail
    clear t1
    rw [HSC.out] at HSZ HV
    refine start_ (n := 23) (S := fun w' => w'.cell? ⟨B, 6, none⟩ = some (.slice k.A st.put.length k.ac) ∧ w'.cell? ⟨B, 2, none⟩ = some (.int .i64 cx.cap) ∧ w'.cell? ⟨B, 5, none⟩ = some (.slice k.U cx.up.length k.uc) ∧ True) (ds := []) (bm 23 0) (by kernel_rfl) rfl rfl ⟨(HM.out.below (below_drew1 (Below.refl _ _))).cells.2.2.2.2.2.2.1, (HM.out.below (below_drew1 (Below.refl _ _))).cells.2.2.1, (HM.out.below (below_drew1 (Below.refl _ _))).cells.2.2.2.2.2.1, trivial⟩ (fun hHeld => ?_)
    have hb := below_drew1 (Below.refl wm.heap.size wm)
    replace HM := Aside.mk (HM.out.below hb)
    replace HW := Aside.mk (HW.out.trans (hb.mono HW.out.size))
    clear hb
    generalize wm.drew = w4 at *
    have HLB := Aside.mk (rleast_bd HM.out)
    have HPN := Aside.mk (show st.put.length ≤ 64000 by have := HM.out.wf.tk; have := HM.out.i; omega)
    have ew1 : IntKind.i64.wrap ((st.put.length : Int) + (c.n)) = st.put.length + (c.n) := by rw [wrapE]; exact w64 (by have := HM.out.s.c64; have := HPN.out; have := HSZ.out; omega)
    have ew2 : IntKind.i64.wrap (cx.cap + least st.gate cx.ends) = cx.cap + least st.gate cx.ends := by rw [wrapE]; exact w64 (by have := HM.out.s.c64; have := HPN.out; have := HLB.out; omega)
    have ew3 : wrap64 ((st.put.length : Int) + (c.n)) = st.put.length + (c.n) := by rw [← wrapE]; exact ew1
    have ew4 : wrap64 (cx.cap + least st.gate cx.ends) = cx.cap + least st.gate cx.ends := by rw [← wrapE]; exact ew2
    refine pu_ 0 (bm 23 1) ?_
    refine pu_ 1 (bm 23 3) ?_
    refine pu_ 2 (bm 23 7) ?_
    refine ta_ 3 (bm 23 15) hHeld ?_
    refine pu_ 4 (bm 23 31) ?_
    refine pu_ 5 (bm 23 63) ?_
    refine pu_ 6 (bm 23 127) ?_
    refine pu_ 7 (bm 23 255) ?_
    refine pu_ 8 (bm 23 511) ?_
    refine pu_ 9 (bm 23 1023) ?_
    refine pu_ 10 (bm 23 2047) ?_
    refine ta_ 11 (bm 23 4095) hHeld ?_
    refine pu_ 12 (bm 23 8191) ?_
    refine pu_ 13 (bm 23 16383) ?_
    refine pu_ 14 (bm 23 32767) ?_
    refine pu_ 15 (bm 23 65535) ?_
    refine pu_ 16 (bm 23 131071) ?_
    refine ta_ 17 (bm 23 262143) hHeld ?_
    refine one_ (i := 18) (N := some 54) (bm 23 524287) rfl rfl (by kernel_rfl) (by decide) (fun K hK => ?_)
    refine goes_ Tryd.func45 (by kernel_rfl) rfl #[.slice k.U cx.up.length k.uc] (by rfl) rfl rfl (by (try simp only [List.map_toArray, List.map_cons, List.map_nil]); first | done | rfl) ?_
    refine (rends_c HM.out HE.out).mono ?_
    rintro q5 w5 ⟨A', c', rfl, hce, hcl, hb⟩
    refine ⟨_, rfl, ?_⟩
    replace HM := Aside.mk (HM.out.below hb)
    replace HW := Aside.mk (HW.out.trans (hb.mono HW.out.size))
    have HCE := Aside.mk hce
    have HCL := Aside.mk hcl
    clear hb hce hcl
    refine hK.out _ _ ⟨HM.out.cells.2.2.2.2.2.2.1, HM.out.cells.2.2.1, HM.out.cells.2.2.2.2.2.1, trivial⟩ (fun hHeld => ?_)
    clear hK K
    refine norm_ (a' := ?_) ?_ ?_
    rotate_left
    · show Act.put _ (some 54) _ = _
      simp only [Act.put, List.setIfInBounds_toArray, List.set_cons_zero, List.set_cons_succ, i64_w, i32_w]
      rfl
    refine one_ (i := 19) (N := some 55) (bm 23 1048575) rfl rfl (by kernel_rfl) (by decide) (fun K hK => ?_)
    refine goes_ Tryd.func44 (by kernel_rfl) rfl #[.pointer (some ⟨B, 0, none⟩), .slice A' cx.ends.length c'] (by rfl) rfl rfl (by (try simp only [List.map_toArray, List.map_cons, List.map_nil]); first | done | rfl) ?_
    refine (r_least HM.out A' c' cx.ends HCE.out HCL.out HM.out.s.en (by have := HM.out.s.el; omega) HM.out.s.eb).mono ?_
    rintro q w6 ⟨rfl, hb⟩
    refine ⟨_, rfl, ?_⟩
    replace HM := Aside.mk (HM.out.below hb)
    replace HW := Aside.mk (HW.out.trans (hb.mono HW.out.size))
    clear hb
    refine hK.out _ _ ⟨HM.out.cells.2.2.2.2.2.2.1, HM.out.cells.2.2.1, HM.out.cells.2.2.2.2.2.1, trivial⟩ (fun hHeld => ?_)
    clear hK K
    refine norm_ (a' := ?_) ?_ ?_
    rotate_left
    · show Act.put _ (some 55) _ = _
      simp only [Act.put, List.setIfInBounds_toArray, List.set_cons_zero, List.set_cons_succ, i64_w, i32_w]
      rfl
    refine pu_ 20 (bm 23 2097151) ?_
    refine pu_ 21 (bm 23 4194303) ?_
    refine pu_ 22 (bm 23 8388607) ?_
    refine done_ (by kernel_rfl) ?_
    clear hHeld
    go_wp2
    go_ret
    exact ⟨HV.out, HW.out⟩
  have h1 := hv
  clear hv
  by_cases hv : c.op = 5
  · have o1 : (c.op == 1) = false := by rw [hv]; rfl
    have n1 : (c.op != 1) = true := by rw [hv]; rfl
    have o5 : (c.op == 5) = true := by rw [hv]; rfl
    have n5 : (c.op != 5) = false := by rw [hv]; rfl
    have HOP := Aside.mk hv
    have HSC := Aside.mk (show szC c = c.data.length by unfold szC; rw [hv]; rfl)
    clear hv
    go_wp2_with fail
    clear y0 y1 y2
    obtain ⟨q, eH, _, hh, _⟩ := HM.out.hand t HT.out
    rw [HV7.out] at hh
    have HEH := Aside.mk eH
    have HS := Aside.mk (show ∀ W : World, Below w2.heap.size w2 W → W.heap[w.heap.size]? = some (.cells #[.int .i64 c.op, .int .i64 c.n, .slice A c.data.length C] 39 (0, 0)) → W.cell? ⟨w.heap.size, 0, none⟩ = some (.int .i64 c.op) ∧ W.cell? ⟨w.heap.size, 1, none⟩ = some (.int .i64 c.n) ∧ W.cell? ⟨w.heap.size, 2, none⟩ = some (.slice A c.data.length C) ∧ W.cell? ⟨B, 8, none⟩ = some (.slice (some ⟨q, 0, none⟩) nn k.hc) ∧ W.cell? ⟨q, t * 7, none⟩ = some v0 ∧ W.cell? ⟨q, t * 7 + 1, none⟩ = some v1 ∧ W.cell? ⟨q, t * 7 + 2, none⟩ = some v2 ∧ W.cell? ⟨q, t * 7 + 3, none⟩ = some v3 ∧ W.cell? ⟨q, t * 7 + 4, none⟩ = some v4 ∧ W.cell? ⟨q, t * 7 + 5, none⟩ = some v5 ∧ W.cell? ⟨q, t * 7 + 6, none⟩ = some v6 ∧ True from fun W hb hy => by
      have h8 := (HM.out.below hb).cells.2.2.2.2.2.2.2.2
      rw [HEH.out, ← HNN.out] at h8
      have go : ∀ {p : Addr} {v : Value}, w2.cell? p = some v → W.cell? p = some v := fun hp => (hb.cell (World.block_lt_of_cell? _ _ hp)).trans hp
      exact ⟨(blk_cell hy 0).trans rfl, (blk_cell hy 1).trans rfl, (blk_cell hy 2).trans rfl, h8, go (hh 0 _ rfl), go (hh 1 _ rfl), go (hh 2 _ rfl), go (hh 3 _ rfl), go (hh 4 _ rfl), go (hh 5 _ rfl), go (hh 6 _ rfl), trivial⟩)
    clear hh eH
    have HMAY := Aside.mk (fun w2 => r_may HM.out t HT.out c A C w2)
    rw [HV7.out] at HMAY
    refine start_ (n := 20) (S := fun w' => w'.cell? ⟨w.heap.size, 0, none⟩ = some (.int .i64 c.op) ∧ w'.cell? ⟨w.heap.size, 1, none⟩ = some (.int .i64 c.n) ∧ w'.cell? ⟨w.heap.size, 2, none⟩ = some (.slice A c.data.length C) ∧ w'.cell? ⟨B, 8, none⟩ = some (.slice (some ⟨q, 0, none⟩) nn k.hc) ∧ w'.cell? ⟨q, t * 7, none⟩ = some v0 ∧ w'.cell? ⟨q, t * 7 + 1, none⟩ = some v1 ∧ w'.cell? ⟨q, t * 7 + 2, none⟩ = some v2 ∧ w'.cell? ⟨q, t * 7 + 3, none⟩ = some v3 ∧ w'.cell? ⟨q, t * 7 + 4, none⟩ = some v4 ∧ w'.cell? ⟨q, t * 7 + 5, none⟩ = some v5 ∧ w'.cell? ⟨q, t * 7 + 6, none⟩ = some v6 ∧ True) (ds := []) (bm 20 0) (by kernel_rfl) rfl rfl (HS.out _ (below_drew1 (Below.refl _ _)) (blk_drew HY.out)) (fun hHeld => ?_)
    have hb := below_drew1 (Below.refl w2.heap.size w2)
    replace HM := Aside.mk (HM.out.below hb)
    replace HW := Aside.mk (HW.out.trans (hb.mono HW.out.size))
    replace HY := Aside.mk (blk_below HY.out hb)
    have HB2 := Aside.mk hb
    clear hb
    generalize w2.drew = w3 at *
    refine pu_ 0 (bm 20 1) ?_
    refine ta_ 1 (bm 20 3) hHeld ?_
    refine pu_ 2 (bm 20 7) ?_
    refine pu_ 3 (bm 20 15) ?_
    refine pu_ 4 (bm 20 31) ?_
    refine ta_ 5 (bm 20 63) hHeld ?_
    refine pu_ 6 (bm 20 127) ?_
    refine pu_ 7 (bm 20 255) ?_
    refine pu_ 8 (bm 20 511) ?_
    refine pu_ 9 (bm 20 1023) ?_
    refine pu_ 10 (bm 20 2047) ?_
    refine pu_ 11 (bm 20 4095) ?_
    refine ta_ 12 (bm 20 8191) hHeld ?_
    refine pu_ 13 (bm 20 16383) ?_
    refine pu_ 14 (bm 20 32767) ?_
    refine ta_ 15 (bm 20 65535) hHeld ?_
    refine ta_ 16 (bm 20 131071) hHeld ?_
    refine one_ (i := 17) (N := some 33) (bm 20 262143) rfl rfl (by kernel_rfl) (by decide) (fun K hK => ?_)
    refine goes_ Tryd.func43 (by kernel_rfl) rfl #[.agg #[v0, v1, v2, v3, v4, v5, v6], .agg #[.int .i64 c.op, .int .i64 c.n, .slice A c.data.length C]] (by rfl) rfl rfl (by (try simp only [List.map_toArray, List.map_cons, List.map_nil]); first | done | rfl) ?_
    refine (HMAY.out _).mono ?_
    rintro q wm ⟨rfl, hb⟩
    refine ⟨_, rfl, ?_⟩
    have HS := Aside.mk (HS.out _ (HB2.out.trans (hb.mono HB2.out.size)) (blk_below HY.out hb))
    replace HM := Aside.mk (HM.out.below hb)
    replace HW := Aside.mk (HW.out.trans (hb.mono HW.out.size))
    replace HY := Aside.mk (blk_below HY.out hb)
    clear hb
    refine hK.out _ _ HS.out (fun hHeld => ?_)
    clear hK K
    refine norm_ (a' := ?_) ?_ ?_
    rotate_left
    · show Act.put _ (some 33) _ = _
      simp only [Act.put, List.setIfInBounds_toArray, List.set_cons_zero, List.set_cons_succ, i64_w, i32_w]
      rfl
    refine pu_ 18 (bm 20 524287) ?_
    refine pu_ 19 (bm 20 1048575) ?_
    refine done_ (by kernel_rfl) ?_
    clear hHeld
    by_cases hc : codeL cx st t c = 0
    rotate_left
    · have t1 : (codeL cx st t c != 0) = true := by simpa using hc
      have HV := Aside.mk (show decide (waitsL cx st t c) = false from decide_eq_false (fun h => hc h.2.1))
      clear hc
      generalize codeL cx st t c = cod at *
      go_wp2
      go_ret
      exact ⟨by rw [HV.out] <;> rfl, HW.out⟩
    have t1 : (codeL cx st t c != 0) = false := by rw [hc]; rfl
    have HSZ := Aside.mk (show 1 ≤ szC c ∧ szC c ≤ 64 from sz_bd HM.out HT.out (by have := HOP.out; omega) hc)
    have HV := Aside.mk (show Ending.returned (.bool (decide (cx.cap + least st.gate cx.ends < (st.put.length : Int) + szC c))) = .returned (.bool (decide (waitsL cx st t c))) from by
      congr 2
      exact decide_eq_decide.2 ⟨fun h => ⟨by have := HOP.out; omega, hc, by omega⟩, fun h => by have := h.2.2; omega⟩)
    clear hc
    generalize codeL cx st t c = cod at *
    skip
    go_wp2_with fail
    clear t1
    rw [HSC.out] at HSZ HV
    refine start_ (n := 23) (S := fun w' => w'.cell? ⟨B, 6, none⟩ = some (.slice k.A st.put.length k.ac) ∧ w'.cell? ⟨B, 2, none⟩ = some (.int .i64 cx.cap) ∧ w'.cell? ⟨B, 5, none⟩ = some (.slice k.U cx.up.length k.uc) ∧ True) (ds := []) (bm 23 0) (by kernel_rfl) rfl rfl ⟨(HM.out.below (below_drew1 (Below.refl _ _))).cells.2.2.2.2.2.2.1, (HM.out.below (below_drew1 (Below.refl _ _))).cells.2.2.1, (HM.out.below (below_drew1 (Below.refl _ _))).cells.2.2.2.2.2.1, trivial⟩ (fun hHeld => ?_)
    have hb := below_drew1 (Below.refl wm.heap.size wm)
    replace HM := Aside.mk (HM.out.below hb)
    replace HW := Aside.mk (HW.out.trans (hb.mono HW.out.size))
    clear hb
    generalize wm.drew = w4 at *
    have HLB := Aside.mk (rleast_bd HM.out)
    have HPN := Aside.mk (show st.put.length ≤ 64000 by have := HM.out.wf.tk; have := HM.out.i; omega)
    have ew1 : IntKind.i64.wrap ((st.put.length : Int) + ((c.data.length : Int))) = st.put.length + ((c.data.length : Int)) := by rw [wrapE]; exact w64 (by have := HM.out.s.c64; have := HPN.out; have := HSZ.out; omega)
    have ew2 : IntKind.i64.wrap (cx.cap + least st.gate cx.ends) = cx.cap + least st.gate cx.ends := by rw [wrapE]; exact w64 (by have := HM.out.s.c64; have := HPN.out; have := HLB.out; omega)
    have ew3 : wrap64 ((st.put.length : Int) + ((c.data.length : Int))) = st.put.length + ((c.data.length : Int)) := by rw [← wrapE]; exact ew1
    have ew4 : wrap64 (cx.cap + least st.gate cx.ends) = cx.cap + least st.gate cx.ends := by rw [← wrapE]; exact ew2
    refine pu_ 0 (bm 23 1) ?_
    refine pu_ 1 (bm 23 3) ?_
    refine pu_ 2 (bm 23 7) ?_
    refine ta_ 3 (bm 23 15) hHeld ?_
    refine pu_ 4 (bm 23 31) ?_
    refine pu_ 5 (bm 23 63) ?_
    refine pu_ 6 (bm 23 127) ?_
    refine pu_ 7 (bm 23 255) ?_
    refine pu_ 8 (bm 23 511) ?_
    refine pu_ 9 (bm 23 1023) ?_
    refine pu_ 10 (bm 23 2047) ?_
    refine ta_ 11 (bm 23 4095) hHeld ?_
    refine pu_ 12 (bm 23 8191) ?_
    refine pu_ 13 (bm 23 16383) ?_
    refine pu_ 14 (bm 23 32767) ?_
    refine pu_ 15 (bm 23 65535) ?_
    refine pu_ 16 (bm 23 131071) ?_
    refine ta_ 17 (bm 23 262143) hHeld ?_
    refine one_ (i := 18) (N := some 54) (bm 23 524287) rfl rfl (by kernel_rfl) (by decide) (fun K hK => ?_)
    refine goes_ Tryd.func45 (by kernel_rfl) rfl #[.slice k.U cx.up.length k.uc] (by rfl) rfl rfl (by (try simp only [List.map_toArray, List.map_cons, List.map_nil]); first | done | rfl) ?_
    refine (rends_c HM.out HE.out).mono ?_
    rintro q5 w5 ⟨A', c', rfl, hce, hcl, hb⟩
    refine ⟨_, rfl, ?_⟩
    replace HM := Aside.mk (HM.out.below hb)
    replace HW := Aside.mk (HW.out.trans (hb.mono HW.out.size))
    have HCE := Aside.mk hce
    have HCL := Aside.mk hcl
    clear hb hce hcl
    refine hK.out _ _ ⟨HM.out.cells.2.2.2.2.2.2.1, HM.out.cells.2.2.1, HM.out.cells.2.2.2.2.2.1, trivial⟩ (fun hHeld => ?_)
    clear hK K
    refine norm_ (a' := ?_) ?_ ?_
    rotate_left
    · show Act.put _ (some 54) _ = _
      simp only [Act.put, List.setIfInBounds_toArray, List.set_cons_zero, List.set_cons_succ, i64_w, i32_w]
      rfl
    refine one_ (i := 19) (N := some 55) (bm 23 1048575) rfl rfl (by kernel_rfl) (by decide) (fun K hK => ?_)
    refine goes_ Tryd.func44 (by kernel_rfl) rfl #[.pointer (some ⟨B, 0, none⟩), .slice A' cx.ends.length c'] (by rfl) rfl rfl (by (try simp only [List.map_toArray, List.map_cons, List.map_nil]); first | done | rfl) ?_
    refine (r_least HM.out A' c' cx.ends HCE.out HCL.out HM.out.s.en (by have := HM.out.s.el; omega) HM.out.s.eb).mono ?_
    rintro q w6 ⟨rfl, hb⟩
    refine ⟨_, rfl, ?_⟩
    replace HM := Aside.mk (HM.out.below hb)
    replace HW := Aside.mk (HW.out.trans (hb.mono HW.out.size))
    clear hb
    refine hK.out _ _ ⟨HM.out.cells.2.2.2.2.2.2.1, HM.out.cells.2.2.1, HM.out.cells.2.2.2.2.2.1, trivial⟩ (fun hHeld => ?_)
    clear hK K
    refine norm_ (a' := ?_) ?_ ?_
    rotate_left
    · show Act.put _ (some 55) _ = _
      simp only [Act.put, List.setIfInBounds_toArray, List.set_cons_zero, List.set_cons_succ, i64_w, i32_w]
      rfl
    refine pu_ 20 (bm 23 2097151) ?_
    refine pu_ 21 (bm 23 4194303) ?_
    refine pu_ 22 (bm 23 8388607) ?_
    refine done_ (by kernel_rfl) ?_
    clear hHeld
    go_wp2
    go_ret
    exact ⟨HV.out, HW.out⟩
  have h5 := hv
  clear hv
  have o1 : (c.op == 1) = false := by simpa using h1
  have n1 : (c.op != 1) = true := by simpa using h1
  have o5 : (c.op == 5) = false := by simpa using h5
  have n5 : (c.op != 5) = true := by simpa using h5
  have HV := Aside.mk (show decide (waitsL cx st t c) = false from decide_eq_false (fun h => h.1.elim h1 h5))
  clear h1 h5
  go_wp2_with fail
  clear y0 y1 y2
  refine start_ (n := 20) (S := fun w' => w'.cell? ⟨w.heap.size, 0, none⟩ = some (.int .i64 c.op) ∧ w'.cell? ⟨w.heap.size, 1, none⟩ = some (.int .i64 c.n) ∧ w'.cell? ⟨w.heap.size, 2, none⟩ = some (.slice A c.data.length C) ∧ True) (ds := []) (bm 20 0) (by kernel_rfl) rfl rfl ⟨(blk_cell (blk_drew HY.out) 0).trans rfl, (blk_cell (blk_drew HY.out) 1).trans rfl, (blk_cell (blk_drew HY.out) 2).trans rfl, trivial⟩ (fun hHeld => ?_)
  have hb := below_drew1 (Below.refl w2.heap.size w2)
  replace HM := Aside.mk (HM.out.below hb)
  replace HW := Aside.mk (HW.out.trans (hb.mono HW.out.size))
  replace HY := Aside.mk (blk_below HY.out hb)
  have HB2 := Aside.mk hb
  clear hb
  generalize w2.drew = w3 at *
  refine pu_ 0 (bm 20 1) ?_
  refine ta_ 1 (bm 20 3) hHeld ?_
  refine pu_ 2 (bm 20 7) ?_
  refine pu_ 3 (bm 20 15) ?_
  refine pu_ 4 (bm 20 31) ?_
  refine ta_ 5 (bm 20 63) hHeld ?_
  refine pu_ 6 (bm 20 127) ?_
  refine pu_ 7 (bm 20 255) ?_
  refine pu_ 8 (bm 20 511) ?_
  refine of_ 9 (bm 20 1023) ?_
  refine of_ 10 (bm 20 2047) ?_
  refine of_ 11 (bm 20 4095) ?_
  refine of_ 12 (bm 20 8191) ?_
  refine of_ 13 (bm 20 16383) ?_
  refine of_ 14 (bm 20 32767) ?_
  refine of_ 15 (bm 20 65535) ?_
  refine of_ 16 (bm 20 131071) ?_
  refine of_ 17 (bm 20 262143) ?_
  refine of_ 18 (bm 20 524287) ?_
  refine pu_ 19 (bm 20 1048575) ?_
  refine done_ (by kernel_rfl) ?_
  clear hHeld
  go_wp2
  go_ret
  exact ⟨by rw [HV.out] <;> rfl, HW.out⟩
end Go.Proofs.YtgibmlbdkijflaaDoor.So
