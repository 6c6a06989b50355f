/- A list of what a handle is told, read: its cells, and the data of each. -/
import Derived.Test.YtkakgmpcenfjlaaDoOpen
set_option linter.unusedVariables false
namespace Go.Proofs.Ytkakgmpcenfjlaa.Handle
open Go.RowKit Go.Proofs.YtkakgmpcenfjlaaW.PrintWords
theorem readsDo2 : Open.Reads kDo 44 (fun x => (Lit.int .i64 x.2.1).wf = true ∧ (Lit.int .u64 x.2.2.1).wf = true) :=
  (Open.reads_struct Try.underlying44 (by kernel_rfl) (Open.freads_cons (off' := 1) (by kernel_rfl) rfl (Open.reads_int Try.underlying3) (Open.freads_cons (off' := 2) (by kernel_rfl) rfl (Open.reads_int Try.underlying3) (Open.freads_cons (off' := 3) (by kernel_rfl) rfl (Open.reads_int Try.underlying22)
    (Open.freads_one (by kernel_rfl) (Open.reads_struct Try.underlying42 (by kernel_rfl) (Open.freads_cons (off' := 1) (by kernel_rfl) rfl (Open.reads_int Try.underlying3) (Open.freads_cons (off' := 2) (by kernel_rfl) rfl (Open.reads_int Try.underlying3) (Open.freads_one (by kernel_rfl) (Open.reads_slice Try.underlying40 (by kernel_rfl) (Open.reads_int Try.underlying3))))))))))).mono (fun y h => ⟨h.2.1, h.2.2.1⟩)
abbrev kH : Kd (Int × Bool × Bool × Int × Int × Int × Int) := Kd.pair (Kd.int .i64) (Kd.pair Kd.bool (Kd.pair Kd.bool (Kd.pair (Kd.int .u64) (Kd.pair (Kd.int .i64) (Kd.pair (Kd.int .i64) (Kd.int .i64))))))
theorem readsH : Open.Reads kH 52 (fun _ => True) :=
  (Open.reads_struct Try.underlying52 (by kernel_rfl) (Open.freads_cons (off' := 1) (by kernel_rfl) rfl (Open.reads_int Try.underlying3) (Open.freads_cons (off' := 2) (by kernel_rfl) rfl (Open.reads_bool Try.underlying4) (Open.freads_cons (off' := 3) (by kernel_rfl) rfl (Open.reads_bool Try.underlying4) (Open.freads_cons (off' := 4) (by kernel_rfl) rfl (Open.reads_int Try.underlying22)
    (Open.freads_cons (off' := 5) (by kernel_rfl) rfl (Open.reads_int Try.underlying3) (Open.freads_cons (off' := 6) (by kernel_rfl) rfl (Open.reads_int Try.underlying3) (Open.freads_one (by kernel_rfl) (Open.reads_int Try.underlying3))))))))).mono (fun _ _ => trivial)
def Xof (l : List (Int × Int × Int × Int × Int × List Int)) (i : Nat) : List Int := match l[i]? with | some y => y.2.2.2.2.2 | none => []
theorem do_cells2 {W : World} {A : Option Addr} {l : List (Int × Int × Int × Int × Int × List Int)} (h : Kd.C kDo W A l.length l) (hF : ∀ y ∈ l, (Lit.int .i64 y.2.1).wf = true ∧ (Lit.int .u64 y.2.2.1).wf = true) :
    ∃ ds : List DoS, ds.length = l.length ∧ (∀ i (h : i < ds.length), ∃ b off, A = some ⟨b, off, none⟩ ∧ b < W.heap.size ∧ DoAt W b off i ds[i] ∧ Kd.C (Kd.int .i64) W ds[i].A ds[i].l (Xof l i) ∧ ds[i].l ≤ ds[i].C) ∧ (∀ d ∈ ds, (-9223372036854775808 ≤ d.n ∧ d.n < 9223372036854775808) ∧ 0 ≤ d.at_) := by
  have key : ∀ i, i < l.length → ∃ d : DoS, (∃ b off, A = some ⟨b, off, none⟩ ∧ b < W.heap.size ∧ DoAt W b off i d ∧ Kd.C (Kd.int .i64) W d.A d.l (Xof l i) ∧ d.l ≤ d.C) ∧ (-9223372036854775808 ≤ d.n ∧ d.n < 9223372036854775808) ∧ 0 ≤ d.at_ := by
    intro i hi
    obtain ⟨_, _, h2⟩ := h
    obtain ⟨a, rfl, h3⟩ := h2 (by omega)
    obtain ⟨cs, hl, hK, hc⟩ := h3 i l[i] (List.getElem?_eq_getElem hi)
    have hf := hF l[i] (List.getElem_mem hi)
    have hX : Xof l i = l[i].2.2.2.2.2 := by unfold Xof; rw [List.getElem?_eq_getElem hi]
    generalize l[i] = y at *
    obtain ⟨y0, y1, y2, y3, y4, y5⟩ := y
    obtain ⟨_, _, rfl, rfl, _, _, rfl, rfl, _, _, rfl, rfl, _, _, rfl, rfl, _, _, rfl, rfl, B, C, rfl, hlC, hC5⟩ := hK
    obtain ⟨b, off, sp⟩ := a
    obtain rfl : sp = none := by
      cases sp with
      | none => rfl
      | some q =>
        exfalso
        obtain ⟨c0, _, hK0, hc0⟩ := h3 0 l[0] (List.getElem?_eq_getElem (by omega))
        generalize l[0] = z at *
        obtain ⟨x0, x1, x2, x3, x4, x5⟩ := z
        obtain ⟨_, _, rfl, rfl, _⟩ := hK0
        have g0 : W.cell? ⟨b, off, some q⟩ = some (.int .i64 x0) := hc0 0 _ rfl
        simp [World.cell?] at g0
        split at g0 <;> simp_all
    have addE : ∀ n, Addr.add ⟨b, off, none⟩ n = ⟨b, off + n, none⟩ := by
      intro n
      unfold Addr.add
      split
      · rename_i e
        rw [e, Nat.add_zero]
      · rfl
    have g0 : W.cell? (Addr.add ⟨b, off, none⟩ (i * 6 + 0)) = some (.int .i64 y0) := hc 0 _ rfl
    rw [addE] at g0
    replace g0 : W.cell? ⟨b, off + i * 6, none⟩ = some (.int .i64 y0) := g0
    have g1 : W.cell? ⟨b, off + i * 6 + 1, none⟩ = some (.int .i64 y1) := hc 1 _ rfl
    have g2 : W.cell? ⟨b, off + i * 6 + 2, none⟩ = some (.int .u64 y2) := hc 2 _ rfl
    have g3 : W.cell? ⟨b, off + i * 6 + 3, none⟩ = some (.int .i64 y3) := hc 3 _ rfl
    have g4 : W.cell? ⟨b, off + i * 6 + 4, none⟩ = some (.int .i64 y4) := hc 4 _ rfl
    have g5 : W.cell? ⟨b, off + i * 6 + 5, none⟩ = some (.slice B y5.length C) := hc 5 _ rfl
    refine ⟨⟨y0, y1, y2, y3, y4, B, y5.length, C⟩, ⟨b, off, rfl, World.block_lt_of_cell? W _ g0, ⟨g0, g1, g2, g3, g4, g5⟩, by rw [hX]; exact hC5, hlC⟩, ?_⟩
    have := hf
    simp [Lit.wf, IntKind.min, IntKind.max, IntKind.bits, IntKind.signed] at this
    show (-9223372036854775808 ≤ y1 ∧ y1 < 9223372036854775808) ∧ 0 ≤ y2
    omega
  obtain ⟨ds, hds, hg⟩ := Open.collect key
  refine ⟨ds, hds, fun i h => ?_, fun d hd => ?_⟩
  · obtain ⟨d, e, h1, h2⟩ := hg i (by omega)
    rw [List.getElem?_eq_getElem h] at e
    obtain rfl := Option.some.inj e
    exact h1
  · obtain ⟨i, hi, rfl⟩ := List.mem_iff_getElem.1 hd
    obtain ⟨d, e, h1, h2⟩ := hg i (by omega)
    rw [List.getElem?_eq_getElem hi] at e
    obtain rfl := Option.some.inj e
    exact h2
end Go.Proofs.Ytkakgmpcenfjlaa.Handle
