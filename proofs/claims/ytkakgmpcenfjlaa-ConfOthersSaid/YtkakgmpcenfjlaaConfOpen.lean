/- A configuration that came in, read. -/
import Derived.Test.YtkakgmpcenfjlaaOpen
set_option linter.unusedVariables false
set_option maxRecDepth 100000
namespace Go.Proofs.Ytkakgmpcenfjlaa.Graph
open Go.ChangeShapes Go.WideShapes Go.ChangeAt Go.RowKit Go.Proofs.YtkakgmpcenfjlaaW.PrintWords
def kConf : Kd (Int × Int × Int × Int × Int × List (List Int)) := Kd.pair (Kd.int .i64) (Kd.pair (Kd.int .i64) (Kd.pair (Kd.int .i64) (Kd.pair (Kd.int .i64) (Kd.pair (Kd.int .u64) (Kd.slice 40 (Kd.slice 3 (Kd.int .i64)))))))
theorem readsConf : Open.Reads kConf 25 (fun x => (Lit.int .i64 x.1).wf = true ∧ (Lit.int .i64 x.2.1).wf = true ∧ (Lit.int .i64 x.2.2.1).wf = true ∧ (Lit.int .i64 x.2.2.2.1).wf = true ∧ (Lit.int .u64 x.2.2.2.2.1).wf = true) :=
  (Open.reads_struct Try.underlying25 (by kernel_rfl) (Open.freads_cons (off' := 1) (by kernel_rfl) rfl (Open.reads_int Try.underlying3) (Open.freads_cons (off' := 2) (by kernel_rfl) rfl (Open.reads_int Try.underlying3) (Open.freads_cons (off' := 3) (by kernel_rfl) rfl (Open.reads_int Try.underlying3) (Open.freads_cons (off' := 4) (by kernel_rfl) rfl (Open.reads_int Try.underlying3) (Open.freads_cons (off' := 5) (by kernel_rfl) rfl (Open.reads_int Try.underlying22)
    (Open.freads_one (by kernel_rfl) (Open.reads_slice Try.underlying23 (by kernel_rfl) (Open.reads_slice Try.underlying40 (by kernel_rfl) (Open.reads_int Try.underlying3)))))))))).mono (fun _ h => ⟨h.1, h.2.1, h.2.2.1, h.2.2.2.1, h.2.2.2.2.1⟩)
theorem u64_wf {s : Int} (h : (Lit.int .u64 s).wf = true) : 0 ≤ s ∧ s < 18446744073709551616 := by
  simp [Lit.wf, IntKind.min, IntKind.max, IntKind.bits, IntKind.signed] at h
  omega
theorem i64_wf {s : Int} (h : (Lit.int .i64 s).wf = true) : -9223372036854775808 ≤ s ∧ s < 9223372036854775808 := by
  simp [Lit.wf, IntKind.min, IntKind.max, IntKind.bits, IntKind.signed] at h
  omega
theorem open_conf {H : Type} {enc : TypeId × Value → H} {W : World} {v : Value} {d : DataW H} {ps : List MemPlace} (hk : ∃ cs, v = .agg cs) (h : DataW.Trod enc Try.prog W 0 (fun _ => true) true 25 v d ps) :
    ∃ (a b c p s : Int) (A : Option Addr) (C : Nat) (up : List (List Int)), v = .agg #[.int .i64 a, .int .i64 b, .int .i64 c, .int .i64 p, .int .u64 s, .slice A up.length C] ∧ Kd.C (Kd.slice 3 (Kd.int .i64)) W A up.length up ∧ up.length ≤ C ∧ 0 ≤ s ∧ s < 18446744073709551616 := by
  obtain ⟨cs, rfl⟩ := hk
  obtain ⟨⟨y0, y1, y2, y3, y4, y5⟩, hK, hw⟩ := Open.arg_agg readsConf h
  obtain ⟨_, _, hcs, rfl, _, _, rfl, rfl, _, _, rfl, rfl, _, _, rfl, rfl, _, _, rfl, rfl, A, C, rfl, hlC, hC⟩ := hK
  have hu := u64_wf hw.2.2.2.2
  obtain rfl : cs = #[.int .i64 y0, .int .i64 y1, .int .i64 y2, .int .i64 y3, .int .u64 y4, .slice A y5.length C] := by
    apply Array.toList_inj.1
    exact hcs
  exact ⟨y0, y1, y2, y3, y4, A, C, y5, rfl, hC, hlC, hu.1, hu.2⟩
theorem agg_of {W : World} {R : Reach} {base : Nat} {t : TypeId} {fs : Array Field} {v : Value} (hu : Try.prog.underlying t = some (.struct fs)) (h : v.okWide Try.prog W R base t) : ∃ cs, v = .agg cs := by
  unfold Value.okWide at h
  rw [hu] at h
  obtain ⟨cs, e, _⟩ := h
  exact ⟨cs, e⟩
end Go.Proofs.Ytkakgmpcenfjlaa.Graph
