/- The document's example of a script's lines: walked. Asked: the library's variables lie as laid. -/
import Derived.Test.YtabcdcnnamflfaaDoorScE
set_option linter.unusedVariables false
set_option linter.unusedSimpArgs false
set_option maxRecDepth 100000
namespace Go.Proofs.YtabcdcnnamflfaaDoor.Wd
open Go.RowKit Go.Proofs.YtabcdcnnamflfaaDoorW.PrintWords Go.Proofs.YtabcdcnnamflfaaDoorW.PrintLast Go.Proofs.YtabcdcnnamflfaaDoorW.PrintMore
theorem dec2 (n : Nat) (h : 10 ≤ n) (h2 : n < 100) : Lib.decDigits n = [UInt8.ofNat (48 + n / 10), UInt8.ofNat (48 + n % 10)] := by
  rw [Lib.decDigits, dif_neg (by omega), Lib.decDigits_one (by omega)]
  rfl
theorem sitoa1 (n : Nat) (h : n < 10) : Lib.itoa (n : Int) = [UInt8.ofNat (48 + n)] := by
  unfold Lib.itoa
  rw [if_neg (by omega), Int.toNat_natCast, Lib.decDigits_one h]
theorem sitoa2 (n : Nat) (h : 10 ≤ n) (h2 : n < 100) : Lib.itoa (n : Int) = [UInt8.ofNat (48 + n / 10), UInt8.ofNat (48 + n % 10)] := by
  unfold Lib.itoa
  rw [if_neg (by omega), Int.toNat_natCast, dec2 n h h2]
def exC : Cf := ⟨2, 32, 4, 1, 7, [[], [0]]⟩
def exA : Ac := ⟨1, 0, 0, []⟩
def exB : Ac := ⟨0, 5, 0, [1, 2]⟩
theorem i0 : Lib.itoa 0 = [48] := sitoa1 0 (by decide)
theorem i1' : Lib.itoa 1 = [49] := sitoa1 1 (by decide)
theorem i2' : Lib.itoa 2 = [50] := sitoa1 2 (by decide)
theorem i4' : Lib.itoa 4 = [52] := sitoa1 4 (by decide)
theorem i12' : Lib.itoa 12 = [49, 50] := sitoa2 12 (by decide) (by decide)
theorem i32' : Lib.itoa 32 = [51, 50] := sitoa2 32 (by decide) (by decide)
theorem exC_line : confT exC = [114, 105, 110, 103, 32, 99, 97, 115, 32, 51, 50, 32, 52, 32, 49, 32, 55, 32, 46, 32, 48] := by
  have h : confT exC = Lib.join [ringT, varT 2, Lib.itoa 32, Lib.itoa 4, Lib.itoa 1, Lib.decDigits 7, [46], Lib.join [Lib.itoa 0] [44]] [32] := rfl
  rw [h, i32', i4', i1', i0, Lib.decDigits_one (by decide)]
  decide
theorem exA_line : actT exA 12 = [49, 32, 115, 116, 101, 112, 32, 49, 50] := by
  have h : actT exA 12 = Lib.join [Lib.itoa 1, Wd.stepT, Lib.itoa 12] [32] := rfl
  rw [h, i1', i12']
  decide
theorem exB_line : actT exB 1 = [48, 32, 115, 101, 110, 100, 32, 49, 44, 50] := by
  have h : actT exB 1 = Lib.join [Lib.itoa 0, opT 5, Lib.join [Lib.itoa 1, Lib.itoa 2] [44]] [32] := rfl
  rw [h, i0, i1', i2']
  decide
theorem exC_ok : CfOk exC := ⟨show In8 32 by decide, show In8 4 by decide, show In8 1 by decide, by decide, by decide⟩
theorem exA_ok : AcOk exA := ⟨show In8 1 by decide, show In8 0 by decide, by simp [exA]⟩
theorem exB_ok : AcOk exB := ⟨show In8 0 by decide, show In8 0 by decide, show ∀ n ∈ ([1, 2] : List Int), In8 n by decide⟩
theorem exC_ans (w : World) (hw : LibW w) : Calls Tryd.prog 29 #[.string (bs [114, 105, 110, 103, 32, 99, 97, 115, 32, 51, 50, 32, 52, 32, 49, 32, 55, 32, 46, 32, 48])] w fun e w' => ∃ v, e = .returned (.tuple #[.agg #[.int .i64 2, .int .i64 32, .int .i64 4, .int .i64 1, .int .u64 7, v], .bool true]) ∧ OutU w' w.heap.size v [[], [0]] ∧ Below w.heap.size w w' := by
  have H := conf_ (confT exC) (by rw [exC_line]; decide) w hw
  rw [exC_line] at H
  refine Calls.mono H ?_
  clear H
  rintro e w' ⟨v, he, h1, h2⟩
  have h3 := conf_shown exC_ok
  rw [exC_line] at h3
  have hn : varT exC.variant ≠ [] := by decide
  have h4 := h3.2 hn
  have h5 := h3.1
  rw [decide_eq_true hn] at h5
  rw [h4] at he h1
  rw [h5] at he
  exact ⟨v, he, h1, h2⟩
theorem exA_ans (w : World) (hw : LibW w) : Calls Tryd.prog 30 #[.string (bs [49, 32, 115, 116, 101, 112, 32, 49, 50])] w fun e w' => ∃ A c, e = .returned (.tuple #[.agg #[.int .i64 1, .int .i64 0, .int .i64 0, .slice A 0 c], .int .i64 12, .bool true]) ∧ Below w.heap.size w w' := by
  have H := act_ (actT exA 12) (by rw [exA_line]; decide) w hw
  rw [exA_line] at H
  refine Calls.mono H ?_
  clear H
  rintro e w' ⟨A, c, he, _, _, h2⟩
  have h3 := act_shown exA_ok 12 (by decide) (by decide)
  rw [exA_line] at h3
  have hc : cleanA exA = true := by decide
  obtain ⟨h4, h5⟩ := h3.2 hc
  have h6 := h3.1
  rw [hc] at h6
  rw [h4, h5, h6] at he
  exact ⟨A, c, he, h2⟩
theorem exB_ans (w : World) (hw : LibW w) : Calls Tryd.prog 30 #[.string (bs [48, 32, 115, 101, 110, 100, 32, 49, 44, 50])] w fun e w' => ∃ A c, e = .returned (.tuple #[.agg #[.int .i64 0, .int .i64 5, .int .i64 0, .slice A 2 c], .int .i64 1, .bool true]) ∧ Below w.heap.size w w' := by
  have H := act_ (actT exB 1) (by rw [exB_line]; decide) w hw
  rw [exB_line] at H
  refine Calls.mono H ?_
  clear H
  rintro e w' ⟨A, c, he, _, _, h2⟩
  have h3 := act_shown exB_ok 1 (by decide) (by decide)
  rw [exB_line] at h3
  have hc : cleanA exB = true := by decide
  obtain ⟨h4, h5⟩ := h3.2 hc
  have h6 := h3.1
  rw [hc] at h6
  rw [h4, h5, h6] at he
  exact ⟨A, c, he, h2⟩
theorem rows_of {w : World} {base : Nat} {v : Value} (h : OutU w base v [[], [0]]) : ∃ ad c A1 c1 a1, v = .slice (some ad) 2 c ∧ w.cell? (ad.add 1) = some (.slice A1 1 c1) ∧ A1 = some a1 ∧ w.cell? a1 = some (.int .i64 0) := by
  obtain ⟨A, c, hv, _, hC⟩ := h.reads (by decide)
  obtain ⟨ad, A1, c1, e, h1, _, h2⟩ := QSc.at_L3 hC 1 (by decide) (by decide)
  subst e
  obtain ⟨a1, e1, h3⟩ := num_at h2 0 (by decide) (by decide)
  refine ⟨ad, c, A1, c1, a1, hv, h1, e1, ?_⟩
  have hz : a1.add 0 = a1 := by simp [Addr.add]
  rw [hz] at h3
  exact h3
set_option maxHeartbeats 8000000 in
theorem slive_ (w : World) (hw : LibW w) : Calls Tryd.prog 28 #[] w fun e w' => e = .returned (.bool true) ∧ Below w.heap.size w w' := by
  have HW := Aside.mk hw
  clear hw
  go_enter Tryd.func28, Tryd.ntmps28
  go_wp2_with fail
  refine (exC_ans _ HW.out).mono ?_
  rintro r w1 ⟨v, rfl, hO, hb⟩
  obtain ⟨ad, c, A1, c1, a1, rfl, k1, rfl, k2⟩ := rows_of hO
  have HB := Aside.mk hb
  clear hb hO
  have H1 := Aside.mk (heap_alloc_new w1 (.cells #[.int .i64 2, .int .i64 32, .int .i64 4, .int .i64 1, .int .u64 7, .slice (some ad) 2 c] 46))
  have hba := below_alloc (Below.refl w1.heap.size w1) (.cells #[.int .i64 2, .int .i64 32, .int .i64 4, .int .i64 1, .int .u64 7, .slice (some ad) 2 c] 46)
  have K1 := Aside.mk ((hba.cell (World.block_lt_of_cell? _ _ k1)).trans k1)
  have K2 := Aside.mk ((hba.cell (World.block_lt_of_cell? _ _ k2)).trans k2)
  replace HB := Aside.mk (below_alloc HB.out (.cells #[.int .i64 2, .int .i64 32, .int .i64 4, .int .i64 1, .int .u64 7, .slice (some ad) 2 c] 46))
  clear hba k1 k2
  go_upto_region 2 with (fail)
  generalize w1.alloc (.cells #[.int .i64 2, .int .i64 32, .int .i64 4, .int .i64 1, .int .u64 7, .slice (some ad) 2 c] 46) = w2 at *
  generalize w1.heap.size = g1 at *
  go_wp2_with fail
  refine (exA_ans _ (HW.out.below HB.out)).mono ?_
  rintro r w3 ⟨A3, c3, rfl, hb⟩
  replace H1 := Aside.mk (blk_below H1.out hb)
  replace K1 := Aside.mk ((hb.cell (World.block_lt_of_cell? _ _ K1.out)).trans K1.out)
  replace K2 := Aside.mk ((hb.cell (World.block_lt_of_cell? _ _ K2.out)).trans K2.out)
  replace HB := Aside.mk (HB.out.trans (hb.mono HB.out.size))
  clear hb
  have H3 := Aside.mk (heap_alloc_new w3 (.cells #[.int .i64 1, .int .i64 0, .int .i64 0, .slice A3 0 c3] 50))
  have hb := below_alloc (Below.refl w3.heap.size w3) (.cells #[.int .i64 1, .int .i64 0, .int .i64 0, .slice A3 0 c3] 50)
  replace H1 := Aside.mk (blk_below H1.out hb)
  replace K1 := Aside.mk ((hb.cell (World.block_lt_of_cell? _ _ K1.out)).trans K1.out)
  replace K2 := Aside.mk ((hb.cell (World.block_lt_of_cell? _ _ K2.out)).trans K2.out)
  replace HB := Aside.mk (HB.out.trans (hb.mono HB.out.size))
  clear hb
  go_upto_region 3 with (fail)
  generalize w3.alloc (.cells #[.int .i64 1, .int .i64 0, .int .i64 0, .slice A3 0 c3] 50) = w4 at *
  generalize w3.heap.size = g3 at *
  go_wp2_with fail
  refine (exB_ans _ (HW.out.below HB.out)).mono ?_
  rintro r w5 ⟨A5, c5, rfl, hb⟩
  replace H1 := Aside.mk (blk_below H1.out hb)
  replace H3 := Aside.mk (blk_below H3.out hb)
  replace K1 := Aside.mk ((hb.cell (World.block_lt_of_cell? _ _ K1.out)).trans K1.out)
  replace K2 := Aside.mk ((hb.cell (World.block_lt_of_cell? _ _ K2.out)).trans K2.out)
  replace HB := Aside.mk (HB.out.trans (hb.mono HB.out.size))
  clear hb
  have H5 := Aside.mk (heap_alloc_new w5 (.cells #[.int .i64 0, .int .i64 5, .int .i64 0, .slice A5 2 c5] 50))
  have hb := below_alloc (Below.refl w5.heap.size w5) (.cells #[.int .i64 0, .int .i64 5, .int .i64 0, .slice A5 2 c5] 50)
  replace H1 := Aside.mk (blk_below H1.out hb)
  replace H3 := Aside.mk (blk_below H3.out hb)
  replace K1 := Aside.mk ((hb.cell (World.block_lt_of_cell? _ _ K1.out)).trans K1.out)
  replace K2 := Aside.mk ((hb.cell (World.block_lt_of_cell? _ _ K2.out)).trans K2.out)
  replace HB := Aside.mk (HB.out.trans (hb.mono HB.out.size))
  clear hb
  go_upto_region 4 with (fail)
  generalize w5.alloc (.cells #[.int .i64 0, .int .i64 5, .int .i64 0, .slice A5 2 c5] 50) = w6 at *
  generalize w5.heap.size = g5 at *
  obtain ⟨e0, e1, e2, e3, e4, e5⟩ := blk_cell6 H1.out
  obtain ⟨f0, f1, f2, f3, f4, f5, f6, f7⟩ := blk_cell4 H3.out
  obtain ⟨h0, h1, h2, h3, h4, h5, h6, h7⟩ := blk_cell4 H5.out
  have k1 : w6.cell? { block := ad.block, off := ad.off + 1 } = _ := K1.out
  have k2 := K2.out
  go_wp2
  go_ret
  exact ⟨rfl, HB.out⟩
end Go.Proofs.YtabcdcnnamflfaaDoor.Wd
