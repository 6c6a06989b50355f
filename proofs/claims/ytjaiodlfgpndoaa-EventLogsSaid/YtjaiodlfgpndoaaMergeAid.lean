/- Events in a row of the call's own: a number of one is written; its data are appended to and put back. -/
import Derived.Test.YtjaiodlfgpndoaaQEvx0
set_option linter.unusedVariables false
namespace Go.Proofs.Ytjaiodlfgpndoaa.QEv
open Go.RowKit Go.Proofs.YtjaiodlfgpndoaaW.PrintWords Go.Proofs.YtjaiodlfgpndoaaW.PrintLast Go.Proofs.YtjaiodlfgpndoaaW.PrintMore
theorem setCells_one (W : World) (g j : Nat) (v : Value) : W.setCells g j [v] = W.setCell ⟨g, j, none⟩ v := rfl
variable {W : World} {base g n cap : Nat} {ok : Nat → Prop} {xs : List S56}
theorem put_num (h : Kd.S k56 56 W base ok (.slice (some ⟨g, 0, none⟩) n cap) xs) (i : Int) (h0 : 0 ≤ i) (h1 : i < n) :
    W.cell? ⟨g, i.toNat * 7 + 3, none⟩ = some (.int .i64 (rd_T56 xs i).f3) ∧ W.frozen? ⟨g, i.toNat * 7 + 3, none⟩ = false ∧
    ∀ m, Kd.S k56 56 (W.setCell ⟨g, i.toNat * 7 + 3, none⟩ (.int .i64 m)) base ok (.slice (some ⟨g, 0, none⟩) n cap) (xs.set i.toNat ⟨(rd_T56 xs i).f0, (rd_T56 xs i).f1, (rd_T56 xs i).f2, m, (rd_T56 xs i).f4, (rd_T56 xs i).f5, (rd_T56 xs i).f6⟩) := by
  have h' : Kd.S k56 56 W base (fun k => ok k ∧ ¬ (fun _ => False) k) (.slice (some ⟨g, 0, none⟩) n cap) xs := Kd.S_mono h (fun k hk => ⟨hk, fun e => e⟩)
  obtain ⟨oki, c, hcl, hM, hcc, hfr, hoki, hH⟩ := Kd.S_elem h' z56 i h0 h1
  obtain ⟨v6, rfl, g6⟩ := k56_openM hM
  refine ⟨hcc 3 _ rfl, hfr 3, fun m => ?_⟩
  exact (Kd.S_seg hH h0 h1 (seg := [.int .i64 m]) (j := 3) (show 4 ≤ 7 from by decide) (x' := (⟨(rd_T56 xs i).f0, (rd_T56 xs i).f1, (rd_T56 xs i).f2, m, (rd_T56 xs i).f4, (rd_T56 xs i).f5, (rd_T56 xs i).f6⟩ : S56))
    (k56_mkM _ _ _ (⟨(rd_T56 xs i).f0, (rd_T56 xs i).f1, (rd_T56 xs i).f2, m, (rd_T56 xs i).f4, (rd_T56 xs i).f5, (rd_T56 xs i).f6⟩ : S56) g6) (fun _ hk => Or.inl hk) (fun _ hk => hk.elim)).1
theorem put_data (h : Kd.S k56 56 W base ok (.slice (some ⟨g, 0, none⟩) n cap) xs) (i : Int) (h0 : 0 ≤ i) (h1 : i < n) (hfresh : ∀ k, W.heap.size ≤ k → ok k) :
    ∃ (oki : Nat → Prop) (v6 : Value), W.cell? ⟨g, i.toNat * 7 + 6, none⟩ = some v6 ∧ Kd.R (Kd.int .i64) 3 W base oki v6 (rd_T56 xs i).f6 ∧ (∀ k, W.heap.size ≤ k → oki k) ∧
    ∀ w1 v1 l, Kd.R (Kd.int .i64) 3 w1 base oki v1 l → W.grownBy w1 v6.ownBlock →
      w1.cell? ⟨g, i.toNat * 7 + 6, none⟩ = some v6 ∧ w1.frozen? ⟨g, i.toNat * 7 + 6, none⟩ = false ∧
      Kd.S k56 56 (w1.setCell ⟨g, i.toNat * 7 + 6, none⟩ v1) base ok (.slice (some ⟨g, 0, none⟩) n cap) (xs.set i.toNat ⟨(rd_T56 xs i).f0, (rd_T56 xs i).f1, (rd_T56 xs i).f2, (rd_T56 xs i).f3, (rd_T56 xs i).f4, (rd_T56 xs i).f5, l⟩) := by
  obtain ⟨oki, c, hcl, hM, hcc, hfr, hoki, hH⟩ := Kd.S_elem h z56 i h0 h1
  obtain ⟨v6, rfl, g6⟩ := k56_openM hM
  have hHw := Kd.H_widen hH
  have hgs : g < W.heap.size := by
    have := hfr 0
    have hc := hcc 0 _ rfl
    exact World.block_lt_of_cell? W _ hc
  have hne : ∀ k, (oki k ∨ ok k ∧ W.heap.size ≤ k) → k ≠ g := fun k hk => by
    rcases hk with hk | hk
    · exact (hoki k hk).2
    · have := hk.2; omega
  have g6' : Kd.R (Kd.int .i64) 3 W base (fun k => oki k ∨ ok k ∧ W.heap.size ≤ k) v6 (rd_T56 xs i).f6 := Kd.R_mono g6 (fun k hk => .inl hk)
  refine ⟨_, v6, hcc 6 _ rfl, g6', fun k hk => .inr ⟨hfresh k hk, hk⟩, fun w1 v1 l hR hg => ?_⟩
  have hrow : ∀ k, v6.ownBlock = some k → (oki k ∨ ok k ∧ W.heap.size ≤ k) := fun k hk => g6'.1 k hk
  have hH1 := Kd.H_grown hHw hg hrow
  have hbl : w1.heap[g]? = W.heap[g]? := hg.block g hgs (fun e => hne g (hrow g e.symm) rfl)
  refine ⟨?_, ?_, ?_⟩
  · have : W.cell? ⟨g, i.toNat * 7 + 6, none⟩ = some v6 := hcc 6 _ rfl
    simpa [World.cell?, hbl] using this
  · have : W.frozen? ⟨g, i.toNat * 7 + 6, none⟩ = false := hfr 6
    simpa [World.frozen?, hbl] using this
  · have hseg := Kd.H_seg hH1 h0 h1 (seg := [v1]) (j := 6) (show 7 ≤ 7 from by decide) (by
      intro q hq
      rw [List.mem_singleton.1 hq]
      obtain ⟨A, c, e⟩ := Kd.R_slice hR
      rw [e]; rfl)
    have hR2 : Kd.R (Kd.int .i64) 3 (w1.setCells g (i.toNat * k56.sz + 6) [v1]) base (fun k => oki k ∨ ok k ∧ W.heap.size ≤ k) v1 l := Kd.R_far hR hne v1
    exact Kd.H_back hseg.1 (x' := (⟨(rd_T56 xs i).f0, (rd_T56 xs i).f1, (rd_T56 xs i).f2, (rd_T56 xs i).f3, (rd_T56 xs i).f4, (rd_T56 xs i).f5, l⟩ : S56)) (k56_mkM _ _ _ (⟨(rd_T56 xs i).f0, (rd_T56 xs i).f1, (rd_T56 xs i).f2, (rd_T56 xs i).f3, (rd_T56 xs i).f4, (rd_T56 xs i).f5, l⟩ : S56) hR2) (fun _ hk => hk)
end Go.Proofs.Ytjaiodlfgpndoaa.QEv
