/- SoloNone, walked: no ledger is asked, and no fabric runs. -/
import Derived.Test.YtgibmlbdkijflaaDoorSoSeven
set_option linter.unusedVariables false
set_option linter.unusedSimpArgs false
set_option maxRecDepth 100000
namespace Go.Proofs.YtgibmlbdkijflaaDoor.So
open Go.RowKit Go.Proofs.YtgibmlbdkijflaaDoorW.PrintWords Go.Proofs.YtgibmlbdkijflaaDoorW.PrintLast Go.Proofs.YtgibmlbdkijflaaDoorW.PrintMore
open Ow
open Mo (Aside Cx U64 I64 ints least run cutW plusW New below_low tn1 meas1 w64 i1 wrapE)
open QGc (checkC)
open Graph (checkG Gv)
open Mo (Ev CxOk)
open Graph (Tabled)
open QSo (S41 S39 k41)
theorem cell4 {w : World} {g : Nat} {c0 c1 c2 c3 : Value} {t : TypeId} (h : w.heap[g]? = some (.cells #[c0, c1, c2, c3] t (0, 0))) :
    w.cell? ⟨g, 0, none⟩ = some c0 ∧ w.cell? ⟨g, 1, none⟩ = some c1 ∧ w.cell? ⟨g, 2, none⟩ = some c2 ∧ w.cell? ⟨g, 3, none⟩ = some c3 :=
  ⟨(blk_cell h 0).trans rfl, (blk_cell h 1).trans rfl, (blk_cell h 2).trans rfl, (blk_cell h 3).trans rfl⟩
theorem l_waits_nil (c : Cl) (A : Option Addr) (C : Nat) (t : Int) (w : World) :
    Calls Tryd.prog 14 #[.pointer none, .int .i64 t, .agg #[.int .i64 c.op, .int .i64 c.n, .slice A c.data.length C]] w fun e w' => e = .returned (.bool false) ∧ Below w.heap.size w w' := by
  have HW := Aside.mk (below_alloc (Below.refl w.heap.size w) (.cells #[.int .i64 c.op, .int .i64 c.n, .slice A c.data.length C] 39))
  go_enter Tryd.func14, Tryd.ntmps14
  go_upto_region 1 with (fail)
  generalize w.alloc (.cells #[.int .i64 c.op, .int .i64 c.n, .slice A c.data.length C] 39) = w2 at *
  go_wp2
  go_ret
  exact ⟨rfl, HW.out⟩
set_option maxHeartbeats 4000000 in
theorem run_nil (x : S41) (A : Option Addr) (C : Nat) (w : World) :
    Calls Tryd.prog 29 #[.pointer none, .agg #[.int .i64 x.f0, .int .i64 x.f1.f0, .int .i64 x.f1.f1, .slice A x.f1.f2.length C]] w fun e w' => e = .returned (.tuple #[.agg #[.int .i64 0, .int .i64 0, .int .i64 0, .int .i64 0, .int .u64 0, .int .i64 0, .slice none 0 0], .int .i64 0, .int .i64 22]) ∧ Below w.heap.size w w' := by
  have hb0 := below_alloc (below_alloc (Below.refl w.heap.size w) (.cells #[.int .i64 x.f0, .int .i64 x.f1.f0, .int .i64 x.f1.f1, .slice A x.f1.f2.length C] 41)) (.cells #[.int .i64 0, .int .i64 0, .int .i64 0, .int .i64 0, .int .u64 0, .int .i64 0, .slice none 0 0] 44)
  have HE := heap_alloc_new (w.alloc (.cells #[.int .i64 x.f0, .int .i64 x.f1.f0, .int .i64 x.f1.f1, .slice A x.f1.f2.length C] 41)) (.cells #[.int .i64 0, .int .i64 0, .int .i64 0, .int .i64 0, .int .u64 0, .int .i64 0, .slice none 0 0] 44)
  rw [World.size_alloc] at HE
  have HEV := Aside.mk HE
  have HW := Aside.mk hb0
  clear HE hb0
  go_enter Tryd.func29, Tryd.ntmps29
  go_upto_region 1 with (fail)
  generalize (w.alloc (.cells #[.int .i64 x.f0, .int .i64 x.f1.f0, .int .i64 x.f1.f1, .slice A x.f1.f2.length C] 41)).alloc (.cells #[.int .i64 0, .int .i64 0, .int .i64 0, .int .i64 0, .int .u64 0, .int .i64 0, .slice none 0 0] 44) = w2 at *
  obtain ⟨e0, e1, e2, e3, e4, e5, e6⟩ := Mo.cell7 HEV.out
  have fz0 := blk_frozen HEV.out 0
  have fz1 := blk_frozen HEV.out 1
  have fz2 := blk_frozen HEV.out 2
  have fz3 := blk_frozen HEV.out 3
  have fz4 := blk_frozen HEV.out 4
  have fz5 := blk_frozen HEV.out 5
  have fz6 := blk_frozen HEV.out 6
  have HF := Aside.mk (set7e (.int .i64 0) (.int .i64 0) (.int .i64 0) (.int .i64 0) (.int .u64 0) (.int .i64 0) (.slice none 0 0) HW.out (Nat.le_succ _) HEV.out)
  go_wp2
  refine bodyPost_ret (results_ctt rfl _ _ (w.heap.size + 1) 44 #[.int .i64 0, .int .i64 0, .int .i64 0, .int .i64 0, .int .u64 0, .int .i64 0, .slice none 0 0] (0, 0) _ rfl HF.out.1 Tryd.underlying44 rfl (by kernel_rfl)) rfl ?_
  exact ⟨rfl, HF.out.2⟩
set_option maxHeartbeats 8000000 in
theorem walkNone (w : World) (t : Int) (x : S41) (A : Option Addr) (C : Nat) (hT : Tabled w) :
    Calls Tryd.prog 5 #[.int .i64 t, .agg #[.int .i64 x.f0, .int .i64 x.f1.f0, .int .i64 x.f1.f1, .slice A x.f1.f2.length C]] w fun r W => Yes w W r := by
  have HT := Aside.mk hT
  have HB := Aside.mk (below_alloc (Below.refl w.heap.size w) (.cells #[.int .i64 x.f0, .int .i64 x.f1.f0, .int .i64 x.f1.f1, .slice A x.f1.f2.length C] 41))
  have HA := Aside.mk (heap_alloc_new w (.cells #[.int .i64 x.f0, .int .i64 x.f1.f0, .int .i64 x.f1.f1, .slice A x.f1.f2.length C] 41))
  clear hT
  go_enter Tryd.func5, Tryd.ntmps5
  go_upto_region 1 with (fail)
  generalize w.alloc (.cells #[.int .i64 x.f0, .int .i64 x.f1.f0, .int .i64 x.f1.f1, .slice A x.f1.f2.length C] 41) = w2 at *
  obtain ⟨a0, a1, a2, a3⟩ := cell4 HA.out
  go_wp2_with fail
  refine (l_do_nil ⟨x.f1.f0, x.f1.f1, x.f1.f2⟩ A C t _).mono ?_
  rintro r w3 ⟨rfl, hb⟩
  replace HA := Aside.mk (blk_below HA.out hb)
  replace HB := Aside.mk (HB.out.trans (hb.mono HB.out.size))
  clear hb a0 a1 a2 a3
  go_upto_region 3 with (fail)
  have HE := Aside.mk (heap_alloc_new w3 (.cells #[.int .i64 0, .int .i64 0, .int .i64 0, .int .i64 0, .int .u64 0, .int .i64 0, .slice none 0 0] 44))
  have hb := below_alloc (Below.refl w3.heap.size w3) (.cells #[.int .i64 0, .int .i64 0, .int .i64 0, .int .i64 0, .int .u64 0, .int .i64 0, .slice none 0 0] 44)
  replace HA := Aside.mk (blk_below HA.out hb)
  replace HB := Aside.mk (HB.out.trans (hb.mono HB.out.size))
  clear hb
  generalize w3.heap.size = ge at *
  generalize w3.alloc (.cells #[.int .i64 0, .int .i64 0, .int .i64 0, .int .i64 0, .int .u64 0, .int .i64 0, .slice none 0 0] 44) = w4 at *
  obtain ⟨a0, a1, a2, a3⟩ := cell4 HA.out
  go_wp2_with fail
  refine (run_nil x A C _).mono ?_
  rintro r w5 ⟨rfl, hb⟩
  replace HA := Aside.mk (blk_below HA.out hb)
  replace HE := Aside.mk (blk_below HE.out hb)
  replace HB := Aside.mk (HB.out.trans (hb.mono HB.out.size))
  clear hb a0 a1 a2 a3
  go_upto_region 4 with (fail)
  have hb := below_alloc (Below.refl w5.heap.size w5) (.cells #[.int .i64 0, .int .i64 0, .int .i64 0, .int .i64 0, .int .u64 0, .int .i64 0, .slice none 0 0] 44)
  replace HA := Aside.mk (blk_below HA.out hb)
  replace HE := Aside.mk (blk_below HE.out hb)
  replace HB := Aside.mk (HB.out.trans (hb.mono HB.out.size))
  clear hb
  generalize w5.alloc (.cells #[.int .i64 0, .int .i64 0, .int .i64 0, .int .i64 0, .int .u64 0, .int .i64 0, .slice none 0 0] 44) = w6 at *
  obtain ⟨a0, a1, a2, a3⟩ := cell4 HA.out
  obtain ⟨e0, e1, e2, e3, e4, e5, e6⟩ := Mo.cell7 HE.out
  go_wp2_with fail
  refine (l_waits_nil ⟨x.f1.f0, x.f1.f1, x.f1.f2⟩ A C t _).mono ?_
  rintro r w7 ⟨rfl, hb⟩
  replace HB := Aside.mk (HB.out.trans (hb.mono HB.out.size))
  clear hb a0 a1 a2 a3 e0 e1 e2 e3 e4 e5 e6
  go_wp2_with fail
  refine (live_ w7 (HT.out.below HB.out)).mono ?_
  rintro r w8 ⟨rfl, hb⟩
  replace HB := Aside.mk (HB.out.trans (hb.mono HB.out.size))
  clear hb
  go_wp2
  go_ret
  exact ⟨rfl, HB.out⟩
end Go.Proofs.YtgibmlbdkijflaaDoor.So
