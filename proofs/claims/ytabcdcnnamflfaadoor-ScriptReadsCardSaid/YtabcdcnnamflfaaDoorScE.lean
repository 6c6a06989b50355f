/- Two rows of the same acts are the same: walked. -/
import Derived.Test.YtabcdcnnamflfaaDoorScD
import Derived.RegionTactic
import Derived.BigRegion
set_option linter.unusedVariables false
set_option linter.unusedSimpArgs false
set_option maxRecDepth 100000
namespace Go.Proofs.YtabcdcnnamflfaaDoor.Wd
open Go.RowKit Go.Proofs.YtabcdcnnamflfaaDoorW.PrintWords Go.Proofs.YtabcdcnnamflfaaDoorW.PrintLast Go.Proofs.YtabcdcnnamflfaaDoorW.PrintMore
theorem dbelow {w w' : World} (h : Drawn0 w w') : Below w.heap.size w w' := by
  obtain ⟨n, rfl⟩ := h
  exact pw_below_drewN (Below.refl _ _) n
theorem two_below {w w' : World} {o o2 : Obj} (h : Drawn0 ((w.alloc o).alloc o2).drew w') : Below w.heap.size w w' :=
  (below_drew1 (below_alloc (below_alloc (Below.refl w.heap.size w) o) o2)).trans ((dbelow h).mono (below_drew1 (below_alloc (below_alloc (Below.refl w.heap.size w) o) o2)).size)
/-- Acts in a row, read. -/
def ActC (w : World) (A : Option Addr) (xs : List Ac) : Prop := ∀ j (h : j < xs.length), ∃ ad B c, A = some ad ∧ w.cell? (ad.add (j * 4)) = some (.int .i64 xs[j].thread) ∧ w.cell? ⟨(ad.add (j * 4)).block, (ad.add (j * 4)).off + 1, none⟩ = some (.int .i64 xs[j].op) ∧ w.cell? ⟨(ad.add (j * 4)).block, (ad.add (j * 4)).off + 2, none⟩ = some (.int .i64 xs[j].n) ∧ w.cell? ⟨(ad.add (j * 4)).block, (ad.add (j * 4)).off + 3, none⟩ = some (.slice B xs[j].data.length c) ∧ xs[j].data.length ≤ c ∧ (Kd.int .i64).C w B xs[j].data.length xs[j].data
theorem ActC.below {w w' : World} {A : Option Addr} {xs : List Ac} (h : ActC w A xs) (b : Below w.heap.size w w') : ActC w' A xs := fun j hj => by
  obtain ⟨ad, B, c, e, h0, h1, h2, h3, h4, h5⟩ := h j hj
  exact ⟨ad, B, c, e, (b.cell (World.block_lt_of_cell? _ _ h0)).trans h0, (b.cell (World.block_lt_of_cell? _ _ h1)).trans h1, (b.cell (World.block_lt_of_cell? _ _ h2)).trans h2, (b.cell (World.block_lt_of_cell? _ _ h3)).trans h3, h4, Kd.C_below h5 b⟩
set_option maxHeartbeats 4000000 in
theorem acts_ (w : World) (A B : Option Addr) (c d : Nat) (xs : List Ac) (ha : ActC w A xs) (hb : ActC w B xs) (hn : xs.length ≤ 5000) (hd : ∀ x ∈ xs, x.data.length ≤ 100) :
    Calls Tryd.prog 35 #[.slice A xs.length c, .slice B xs.length d] w fun e w' => e = .returned (.bool true) ∧ Below w.heap.size w w' := by
  have HA0 := Aside.mk ha
  have HB0 := Aside.mk hb
  have HN := Aside.mk hn
  have HD := Aside.mk hd
  have H0 := Aside.mk (Below.refl w.heap.size w)
  have HU := Tryd.underlying50
  clear ha hb hn hd
  go_enter Tryd.func35, Tryd.ntmps35
  go_wp2_with fail
  go_loopw [5] (fun x wr => ∃ i : Nat, i ≤ xs.length ∧ x = .int .i64 i ∧ Aside (Below w.heap.size w wr)) (fun x _ => xs.length - (intOf x).toNat)
  case atStart => exact ⟨0, Nat.zero_le _, rfl, H0⟩
  case round =>
    clear H0
    obtain ⟨i, hi, rfl, H⟩ := hrel
    by_cases hlt : i < xs.length
    · have t1 : decide ((i : Int) < (xs.length : Int)) = true := decide_eq_true (by omega)
      have t2 : decide (i < xs.length) = true := decide_eq_true hlt
      have t3 : (i : Int) < (xs.length : Int) := by omega
      have t4 : (0 : Int) ≤ (i : Int) := by omega
      have HLT := Aside.mk hlt
      have ei := i1 (show i < 4611686018427387904 by have := HN.out; omega)
      obtain ⟨ad, A2, c2, rfl, a0, a1, a2, a3, a4, a5⟩ := (HA0.out.below H.out) i hlt
      obtain ⟨bd, B2, d2, rfl, b0, b1, b2, b3, b4, b5⟩ := (HB0.out.below H.out) i hlt
      have HA5 := Aside.mk (And.intro a4 a5)
      have HB5 := Aside.mk (And.intro b4 b5)
      have HDL := Aside.mk (HD.out _ (List.getElem_mem hlt))
      generalize xs[i] = x at *
      clear hi hlt a4 a5 b4 b5
      have a0x := fun o => pw_cell_below (below_alloc (Below.refl _ _) o) a0
      have a0y := fun o o2 => pw_cell_below (below_alloc (below_alloc (Below.refl wr.heap.size wr) o) o2) a0
      have a1x := fun o => pw_cell_below (below_alloc (Below.refl _ _) o) a1
      have a1y := fun o o2 => pw_cell_below (below_alloc (below_alloc (Below.refl wr.heap.size wr) o) o2) a1
      have a2x := fun o => pw_cell_below (below_alloc (Below.refl _ _) o) a2
      have a2y := fun o o2 => pw_cell_below (below_alloc (below_alloc (Below.refl wr.heap.size wr) o) o2) a2
      have a3x := fun o => pw_cell_below (below_alloc (Below.refl _ _) o) a3
      have a3y := fun o o2 => pw_cell_below (below_alloc (below_alloc (Below.refl wr.heap.size wr) o) o2) a3
      have b0x := fun o => pw_cell_below (below_alloc (Below.refl _ _) o) b0
      have b0y := fun o o2 => pw_cell_below (below_alloc (below_alloc (Below.refl wr.heap.size wr) o) o2) b0
      have b1x := fun o => pw_cell_below (below_alloc (Below.refl _ _) o) b1
      have b1y := fun o o2 => pw_cell_below (below_alloc (below_alloc (Below.refl wr.heap.size wr) o) o2) b1
      have b2x := fun o => pw_cell_below (below_alloc (Below.refl _ _) o) b2
      have b2y := fun o o2 => pw_cell_below (below_alloc (below_alloc (Below.refl wr.heap.size wr) o) o2) b2
      have b3x := fun o => pw_cell_below (below_alloc (Below.refl _ _) o) b3
      have b3y := fun o o2 => pw_cell_below (below_alloc (below_alloc (Below.refl wr.heap.size wr) o) o2) b3
      go_wp2_with fail
      go_region
      all_goals
        clear a0 a1 a2 a3 b0 b1 b2 b3 a0x a1x a2x a3x b0x b1x b2x b3x a0y a1y a2y a3y b0y b1y b2y b3y
        have n1 : (x.thread != x.thread) = false := by simp
        have n2 : (x.op != x.op) = false := by simp
        have n3 : (x.n != x.n) = false := by simp
        have HS := Aside.mk (fun W (b : Below wr.heap.size wr W) => QSc.sakiaref05_Same.calls 200 A2 c2 x.data B2 d2 x.data true W (Kd.C_below HA5.out.2 b) HA5.out.1 (Kd.C_below HB5.out.2 b) HB5.out.1 (by rw [QSc.rsame5_ok _ _ HDL.out 200 (Nat.le_refl _), beq_self_eq_true]))
        go_wp2_with (go_at_call 36; refine (HS.out _ (below_drew1 (below_alloc (below_alloc (Below.refl _ _) _) _))).mono ?_; rintro e w5 ⟨rfl, hd⟩; have HB9 := Aside.mk (two_below hd); clear hd)
        go_roundw
        case rel => exact ⟨i + 1, HLT.out, by first | rfl | simp, ⟨H.out.trans (HB9.out.mono H.out.size)⟩⟩
        case measure =>
          have := HLT.out
          have e9 : ((i : Int) + 1).toNat = i + 1 := by omega
          simp only [intOf, e9, Int.toNat_natCast]
          omega
    · have t1 : decide ((i : Int) < (xs.length : Int)) = false := decide_eq_false (by omega)
      have t2 : decide (i < xs.length) = false := decide_eq_false hlt
      clear hi hlt
      go_wp2
      go_ret
      exact ⟨rfl, H.out⟩
end Go.Proofs.YtabcdcnnamflfaaDoor.Wd
