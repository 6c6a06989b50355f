/- The program's model that is none: what it answers. -/
import Derived.Test.YtnnfcdffnckoiaaDoorMoRows
set_option linter.unusedVariables false
set_option linter.unusedSimpArgs false
set_option maxRecDepth 100000
namespace Go.Proofs.YtnnfcdffnckoiaaDoor.Mo
open Go.RowKit Go.Proofs.YtnnfcdffnckoiaaDoorW.PrintWords Go.Proofs.YtnnfcdffnckoiaaDoorW.PrintLast Go.Proofs.YtnnfcdffnckoiaaDoorW.PrintMore
theorem nil_taken (w : World) : Calls Tryd.prog 26 #[.pointer none] w fun e w' => e = .returned (.int .i64 0) ∧ Below w.heap.size w w' := by
  go_enter Tryd.func26, Tryd.ntmps26
  go_wp2
  go_ret
  exact ⟨rfl, Below.refl _ _⟩
theorem nil_prefix (w : World) : Calls Tryd.prog 27 #[.pointer none] w fun e w' => e = .returned (.int .i64 0) ∧ Below w.heap.size w w' := by
  go_enter Tryd.func27, Tryd.ntmps27
  go_wp2
  go_ret
  exact ⟨rfl, Below.refl _ _⟩
theorem nil_least (w : World) : Calls Tryd.prog 28 #[.pointer none] w fun e w' => e = .returned (.int .i64 0) ∧ Below w.heap.size w w' := by
  go_enter Tryd.func28, Tryd.ntmps28
  go_wp2
  go_ret
  exact ⟨rfl, Below.refl _ _⟩
theorem nil_space (w : World) : Calls Tryd.prog 30 #[.pointer none] w fun e w' => e = .returned (.int .i64 0) ∧ Below w.heap.size w w' := by
  go_enter Tryd.func30, Tryd.ntmps30
  go_wp2
  go_ret
  exact ⟨rfl, Below.refl _ _⟩
theorem nil_there (w : World) (j : Int) : Calls Tryd.prog 67 #[.pointer none, .int .i64 j] w fun e w' => e = .returned (.bool false) ∧ Below w.heap.size w w' := by
  go_enter Tryd.func67, Tryd.ntmps67
  go_wp2
  go_ret
  exact ⟨rfl, Below.refl _ _⟩
theorem nil_gate (w : World) (j : Int) : Calls Tryd.prog 31 #[.pointer none, .int .i64 j] w fun e w' => e = .returned (.int .i64 0) ∧ Below w.heap.size w w' := by
  have HT := Aside.mk (nil_there w j)
  go_enter Tryd.func31, Tryd.ntmps31
  go_wp2_with fail
  refine HT.out.mono ?_
  rintro r w3 ⟨rfl, hb⟩
  go_wp2
  go_ret
  exact ⟨rfl, hb⟩
theorem nil_saw (w : World) (j : Int) : Calls Tryd.prog 32 #[.pointer none, .int .i64 j] w fun e w' => e = .returned (.int .i64 0) ∧ Below w.heap.size w w' := by
  have HT := Aside.mk (nil_there w j)
  go_enter Tryd.func32, Tryd.ntmps32
  go_wp2_with fail
  refine HT.out.mono ?_
  rintro r w3 ⟨rfl, hb⟩
  go_wp2
  go_ret
  exact ⟨rfl, hb⟩
theorem nil_limit (w : World) (j : Int) : Calls Tryd.prog 33 #[.pointer none, .int .i64 j] w fun e w' => e = .returned (.int .i64 0) ∧ Below w.heap.size w w' := by
  have HT := Aside.mk (nil_there w j)
  go_enter Tryd.func33, Tryd.ntmps33
  go_wp2_with fail
  refine HT.out.mono ?_
  rintro r w3 ⟨rfl, hb⟩
  go_wp2
  go_ret
  exact ⟨rfl, hb⟩
theorem nil_count (w : World) (p : Int) : Calls Tryd.prog 37 #[.pointer none, .int .u64 p] w fun e w' => e = .returned (.int .i64 0) ∧ Below w.heap.size w w' := by
  go_enter Tryd.func37, Tryd.ntmps37
  go_wp2
  go_ret
  exact ⟨rfl, Below.refl _ _⟩
theorem nil_data (w : World) (i : Int) : Calls Tryd.prog 40 #[.pointer none, .int .i64 i] w fun e w' => e = .returned (.tuple #[.int .i64 0, .bool false]) ∧ Below w.heap.size w w' := by
  go_enter Tryd.func40, Tryd.ntmps40
  go_wp2
  go_ret2
  exact ⟨rfl, Below.refl _ _⟩
set_option maxHeartbeats 4000000 in
theorem nil_holds (w : World) (t : Int) : Calls Tryd.prog 34 #[.pointer none, .int .i64 t] w fun e w' => e = .returned (.tuple #[.agg #[.int .i64 0, .int .i64 0, .int .i64 0, .bool false], .bool false]) ∧ Below w.heap.size w w' := by
  have HB := Aside.mk (below_alloc (Below.refl w.heap.size w) (.cells #[.int .i64 0, .int .i64 0, .int .i64 0, .bool false] 62))
  have HX := Aside.mk (heap_alloc_new w (.cells #[.int .i64 0, .int .i64 0, .int .i64 0, .bool false] 62))
  have HF := Aside.mk (put4 (w0 := w) (R := w.heap.size) (.int .i64 0) (.int .i64 0) (.int .i64 0) (.bool false) HB.out (Nat.le_refl _) HX.out)
  obtain ⟨r0, r1, r2, r3⟩ := cell4 HX.out
  have f0 := blk_frozen HX.out 0
  have f1 := blk_frozen HX.out 1
  have f2 := blk_frozen HX.out 2
  have f3 := blk_frozen HX.out 3
  go_enter Tryd.func34, Tryd.ntmps34
  go_upto_region 1 with (fail)
  generalize w.alloc (.cells #[.int .i64 0, .int .i64 0, .int .i64 0, .bool false] 62) = w2 at *
  go_wp2
  refine bodyPost_ret (results_ct rfl _ _ w.heap.size 62 #[.int .i64 0, .int .i64 0, .int .i64 0, .bool false] (0, 0) _ rfl HF.out.1 Tryd.underlying62 rfl (by kernel_rfl)) rfl ?_
  exact ⟨rfl, HF.out.2⟩
set_option maxHeartbeats 4000000 in
theorem nil_apply (w : World) (e : Ev) (B : Option Addr) (c : Nat) : Calls Tryd.prog 29 #[.pointer none, .agg #[.int .i64 e.kind, .int .i64 e.thread, .int .i64 e.op, .int .i64 e.n, .int .u64 e.pos, .int .i64 e.code, .slice B e.data.length c]] w fun r w' => r = .returned (.int .i64 22) ∧ Below w.heap.size w w' := by
  have HB := Aside.mk (below_alloc (Below.refl w.heap.size w) (.cells #[.int .i64 e.kind, .int .i64 e.thread, .int .i64 e.op, .int .i64 e.n, .int .u64 e.pos, .int .i64 e.code, .slice B e.data.length c] 44))
  go_enter Tryd.func29, Tryd.ntmps29
  go_upto_region 1 with (fail)
  generalize w.alloc (.cells #[.int .i64 e.kind, .int .i64 e.thread, .int .i64 e.op, .int .i64 e.n, .int .u64 e.pos, .int .i64 e.code, .slice B e.data.length c] 44) = w2 at *
  go_wp2
  go_ret
  exact ⟨rfl, HB.out⟩
set_option maxHeartbeats 4000000 in
theorem nil_all (w : World) (e : Ev) (B : Option Addr) (c g : Nat) (hx : w.heap[g]? = some (.cells #[.int .i64 e.kind, .int .i64 e.thread, .int .i64 e.op, .int .i64 e.n, .int .u64 e.pos, .int .i64 e.code, .slice B e.data.length c] 44 (0, 0))) : Calls Tryd.prog 39 #[.pointer none, .slice (some ⟨g, 0, none⟩) 1 1] w fun r w' => r = .returned (.tuple #[.int .i64 0, .int .i64 22]) ∧ Below w.heap.size w w' := by
  obtain ⟨x0, x1, x2, x3, x4, x5, x6⟩ := cell7 hx
  have HT := Aside.mk (cell7 (heap_alloc_new w (.cells #[.int .i64 e.kind, .int .i64 e.thread, .int .i64 e.op, .int .i64 e.n, .int .u64 e.pos, .int .i64 e.code, .slice B e.data.length c] 44)))
  have HB := Aside.mk (below_alloc (Below.refl w.heap.size w) (.cells #[.int .i64 e.kind, .int .i64 e.thread, .int .i64 e.op, .int .i64 e.n, .int .u64 e.pos, .int .i64 e.code, .slice B e.data.length c] 44))
  clear hx
  go_enter Tryd.func39, Tryd.ntmps39
  go_wp2_with fail
  go_loopw [11] (fun x wr => x = .int .i64 0 ∧ wr = w) (fun x _ => 1)
  case atStart => exact ⟨rfl, rfl⟩
  case round =>
    obtain ⟨rfl, rfl⟩ := hrel
    go_upto_region 4 with (fail)
    obtain ⟨y0, y1, y2, y3, y4, y5, y6⟩ := HT.out
    go_wp2_with fail
    refine (nil_apply _ e B c).mono ?_
    rintro r w4 ⟨rfl, hb⟩
    go_wp2
    go_ret2
    exact ⟨rfl, HB.out.trans (hb.mono HB.out.size)⟩
end Go.Proofs.YtnnfcdffnckoiaaDoor.Mo
