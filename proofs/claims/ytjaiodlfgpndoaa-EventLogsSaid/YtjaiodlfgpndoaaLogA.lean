/- event.Log: what Note, Len, From and Fill do with a log that there is. -/
import Derived.Test.YtjaiodlfgpndoaaPlainMg
import Derived.StillTailTactics
set_option linter.unusedVariables false
set_option linter.unusedSimpArgs false
namespace Go.Proofs.Ytjaiodlfgpndoaa.QEv
open Go.RowKit Go.Proofs.YtjaiodlfgpndoaaW.PrintWords Go.Proofs.YtjaiodlfgpndoaaW.PrintLast Go.Proofs.YtjaiodlfgpndoaaW.PrintMore
attribute [local go_sem] max2_int min2_int max_two min_two
/-- A log: block g has the slice v of events xs; all of it is the log's own, from base on. -/
structure LogAt (base : Nat) (W : World) (g : Nat) (v : Value) (xs : List S56) : Prop where
  blk : W.heap[g]? = some (.cells #[v] 87 (0, 0))
  ge : base ≤ g
  own : Kd.S k56 56 W base (fun k => k ≠ g) v xs
theorem LogAt.below {base : Nat} {W W' : World} {g : Nat} {v : Value} {xs : List S56} (h : LogAt base W g v xs) (b : Below W.heap.size W W') : LogAt base W' g v xs :=
  ⟨blk_below h.blk b, h.ge, Kd.S_below h.own b⟩
set_option maxHeartbeats 8000000 in
set_option maxRecDepth 100000 in
theorem note_calls (g : Nat) (v : Value) (xs : List S56) (x : S56) (A : Option Addr) (C : Nat) (w0 w : World) (hL : LogAt w0.heap.size w g v xs) (hB : Below w0.heap.size w0 w) (hR : Kd.C (Kd.int .i64) w A x.f6.length x.f6) (hC : x.f6.length ≤ C) (hn : xs.length ≤ 200) (hf : x.f6.length ≤ 20000) :
    Calls Try.prog 39 #[.pointer (some ⟨g, 0, none⟩), .agg #[.int .i64 x.f0, .int .i64 x.f1, .int .i64 x.f2, .int .i64 x.f3, .int .u64 x.f4, .int .i64 x.f5, .slice A x.f6.length C]] w fun e w' => e = .returned (.tuple #[]) ∧ (∃ v', LogAt w0.heap.size w' g v' (xs ++ [x])) ∧ Below w0.heap.size w0 w' := by
  obtain ⟨hblk, hge, hown⟩ := hL
  have hu87 := Try.underlying87
  have HF := Aside0.mk (copied_fit x hf)
  have HC := Aside0.mk hC
  have HL := Aside0.mk (show (xs.length + 1) * 72 ≤ 140737488355328 by omega)
  have HGE := Aside0.mk hge
  clear hC hn hf hge
  go_enter Try.func39, Try.ntmps39
  go_wp2_with fail
  obtain ⟨b, hb⟩ : ∃ b, b = w.heap.size := ⟨_, rfl⟩
  have HG := Aside0.mk (blk_alloc hblk (.cells #[.int .i64 x.f0, .int .i64 x.f1, .int .i64 x.f2, .int .i64 x.f3, .int .u64 x.f4, .int .i64 x.f5, .slice A x.f6.length C] 56))
  have HX := Aside0.mk (show (w.alloc (.cells #[.int .i64 x.f0, .int .i64 x.f1, .int .i64 x.f2, .int .i64 x.f3, .int .u64 x.f4, .int .i64 x.f5, .slice A x.f6.length C] 56)).heap[b]? = some (.cells #[.int .i64 x.f0, .int .i64 x.f1, .int .i64 x.f2, .int .i64 x.f3, .int .u64 x.f4, .int .i64 x.f5, .slice A x.f6.length C] 56 (0, 0)) by rw [hb]; simpa using heap_alloc_new w (.cells #[.int .i64 x.f0, .int .i64 x.f1, .int .i64 x.f2, .int .i64 x.f3, .int .u64 x.f4, .int .i64 x.f5, .slice A x.f6.length C] 56))
  have HO := Aside0.mk (Kd.S_alloc (Kd.S_elderB hown b (by omega)) (.cells #[.int .i64 x.f0, .int .i64 x.f1, .int .i64 x.f2, .int .i64 x.f3, .int .u64 x.f4, .int .i64 x.f5, .slice A x.f6.length C] 56))
  have HR := Aside0.mk (Kd.C_alloc hR (.cells #[.int .i64 x.f0, .int .i64 x.f1, .int .i64 x.f2, .int .i64 x.f3, .int .u64 x.f4, .int .i64 x.f5, .slice A x.f6.length C] 56))
  have HB := Aside0.mk (below_alloc hB (.cells #[.int .i64 x.f0, .int .i64 x.f1, .int .i64 x.f2, .int .i64 x.f3, .int .u64 x.f4, .int .i64 x.f5, .slice A x.f6.length C] 56))
  have HBG := Aside0.mk (show b ≠ g by have := blk_lt hblk; omega)
  have HBB := Aside0.mk (show w0.heap.size ≤ b by have := hB.size; omega)
  rw [← hb]
  clear hblk hown hR hB hb
  generalize (w.alloc (.cells #[.int .i64 x.f0, .int .i64 x.f1, .int .i64 x.f2, .int .i64 x.f3, .int .u64 x.f4, .int .i64 x.f5, .slice A x.f6.length C] 56)) = w1 at HG HX HO HR HB ⊢
  refine start_ (n := 12) (S := fun w' => w'.cell? ⟨g, 0, none⟩ = some v ∧ w'.cell? ⟨b, 0, none⟩ = some (.int .i64 x.f0) ∧ w'.cell? ⟨b, 1, none⟩ = some (.int .i64 x.f1) ∧ w'.cell? ⟨b, 2, none⟩ = some (.int .i64 x.f2) ∧ w'.cell? ⟨b, 3, none⟩ = some (.int .i64 x.f3) ∧ w'.cell? ⟨b, 4, none⟩ = some (.int .u64 x.f4) ∧ w'.cell? ⟨b, 5, none⟩ = some (.int .i64 x.f5) ∧ w'.cell? ⟨b, 6, none⟩ = some (.slice A x.f6.length C)) (ds := [11]) #[false, false, false, false, false, false, false, false, false, false, false, false] (by kernel_rfl) rfl rfl ⟨(blk_cell (blk_drew HG.out) 0).trans rfl, (blk_cell (blk_drew HX.out) 0).trans rfl, (blk_cell (blk_drew HX.out) 1).trans rfl, (blk_cell (blk_drew HX.out) 2).trans rfl, (blk_cell (blk_drew HX.out) 3).trans rfl, (blk_cell (blk_drew HX.out) 4).trans rfl, (blk_cell (blk_drew HX.out) 5).trans rfl, (blk_cell (blk_drew HX.out) 6).trans rfl⟩ (fun hHeld => ?_)
  have HG1 := Aside0.mk (blk_drew HG.out)
  have HX1 := Aside0.mk (blk_drew HX.out)
  have HO1 := Aside0.mk (Kd.S_drew HO.out)
  have HR1 := Aside0.mk (Kd.C_drew HR.out)
  have HB1 := Aside0.mk (below_drew1 HB.out)
  clear HG HX HO HR HB
  generalize w1.drew = w2 at hHeld HG1 HX1 HO1 HR1 HB1 ⊢
  refine pure_ (i := 0) (N := some 6) (v := ?_) (a' := ?_) #[true, false, false, false, false, false, false, false, false, false, false, false] rfl rfl (by kernel_rfl) (fun _ _ _ h => h) (Or.inl ⟨by rfl, ?_⟩) ?_ ?_
  rotate_left
  · intro w'
    go_simp
    with_reducible rfl
  rotate_left
  · simp only [Act.put, List.setIfInBounds_toArray, List.set_cons_zero, List.set_cons_succ, i64_w, i32_w]
    rfl
  refine pure_ (i := 1) (N := some 7) (v := ?_) (a' := ?_) #[true, true, false, false, false, false, false, false, false, false, false, false] rfl rfl (by kernel_rfl) (fun _ _ _ h => h) (Or.inl ⟨by rfl, ?_⟩) ?_ ?_
  rotate_left
  · intro w'
    go_simp
    with_reducible rfl
  rotate_left
  · simp only [Act.put, List.setIfInBounds_toArray, List.set_cons_zero, List.set_cons_succ, i64_w, i32_w]
    rfl
  refine pure_ (i := 2) (N := some 8) (v := ?_) (a' := ?_) #[true, true, true, false, false, false, false, false, false, false, false, false] rfl rfl (by kernel_rfl) (fun _ _ _ h => h) (Or.inl ⟨by rfl, ?_⟩) ?_ ?_
  rotate_left
  · intro w'
    go_simp
    with_reducible rfl
  rotate_left
  · simp only [Act.put, List.setIfInBounds_toArray, List.set_cons_zero, List.set_cons_succ, i64_w, i32_w]
    rfl
  refine pure_ (i := 3) (N := some 9) (v := ?_) (a' := ?_) #[true, true, true, true, false, false, false, false, false, false, false, false] rfl rfl (by kernel_rfl) (fun _ _ _ h => h) (Or.inl ⟨by rfl, ?_⟩) ?_ ?_
  rotate_left
  · intro w'
    go_simp
    with_reducible rfl
  rotate_left
  · simp only [Act.put, List.setIfInBounds_toArray, List.set_cons_zero, List.set_cons_succ, i64_w, i32_w]
    rfl
  refine take_ (i := 4) (N := some 10) (v := ?_) (a' := ?_) #[true, true, true, true, true, false, false, false, false, false, false, false] rfl rfl (by kernel_rfl) (fun _ _ _ h => h) (Or.inl ⟨by rfl, ?_⟩) hHeld ?_ ?_
  rotate_left
  · rintro w' ⟨s0, s1, s2, s3, s4, s5, s6, s7⟩
    go_simp
    with_reducible rfl
  rotate_left
  · simp only [Act.put, List.setIfInBounds_toArray, List.set_cons_zero, List.set_cons_succ, i64_w, i32_w]
    rfl
  refine take_ (i := 5) (N := some 11) (v := ?_) (a' := ?_) #[true, true, true, true, true, true, false, false, false, false, false, false] rfl rfl (by kernel_rfl) (fun _ _ _ h => h) (Or.inl ⟨by rfl, ?_⟩) hHeld ?_ ?_
  rotate_left
  · rintro w' ⟨s0, s1, s2, s3, s4, s5, s6, s7⟩
    go_simp
    with_reducible rfl
  rotate_left
  · simp only [Act.put, List.setIfInBounds_toArray, List.set_cons_zero, List.set_cons_succ, i64_w, i32_w]
    rfl
  refine one_ (i := 6) (N := some 12) #[true, true, true, true, true, true, true, false, false, false, false, false] rfl rfl (by kernel_rfl) (by decide) (fun K hK => ?_)
  refine goes_ Try.func69 (by kernel_rfl) rfl #[.agg #[.int .i64 x.f0, .int .i64 x.f1, .int .i64 x.f2, .int .i64 x.f3, .int .u64 x.f4, .int .i64 x.f5, .slice A x.f6.length C]] (by rfl) rfl rfl (by (try simp only [List.map_toArray, List.map_cons, List.map_nil]); first | done | rfl) ?_
  with_reducible refine (event_copied.calls x.f0 x.f1 x.f2 x.f3 x.f4 x.f5 _ _ x.f6 x.f0 x.f1 x.f2 x.f3 x.f4 x.f5 x.f6 _ HR1.out HC.out HF.out).mono ?_
  rintro e w3 ⟨v3, rfl, ho3, hb3⟩
  refine ⟨_, rfl, ?_⟩
  have HG2 := Aside0.mk (blk_below HG1.out hb3)
  have HX2 := Aside0.mk (blk_below HX1.out hb3)
  have HO2 := Aside0.mk (Kd.S_elder' HO1.out (Kd.R_base ho3) hb3)
  have HB2 := Aside0.mk (below_step HB1.out hb3)
  have HN2 := Aside0.mk (Kd.R_lower ho3 HB1.out.size)
  clear HG1 HX1 HO1 HB1 HR1 ho3 hb3
  obtain ⟨A3, C3, e3⟩ := Kd.R_slice HN2.out
  subst e3
  refine hK.out _ _ ⟨(blk_cell HG2.out 0).trans rfl, (blk_cell HX2.out 0).trans rfl, (blk_cell HX2.out 1).trans rfl, (blk_cell HX2.out 2).trans rfl, (blk_cell HX2.out 3).trans rfl, (blk_cell HX2.out 4).trans rfl, (blk_cell HX2.out 5).trans rfl, (blk_cell HX2.out 6).trans rfl⟩ (fun hHeld => ?_)
  clear hK K
  refine norm_ (a' := ?_) ?_ ?_
  rotate_left
  · show Act.put _ (some 12) _ = _
    simp only [Act.put, List.setIfInBounds_toArray, List.set_cons_zero, List.set_cons_succ, i64_w, i32_w]
    rfl
  refine one_ (i := 7) (N := some 13) #[true, true, true, true, true, true, true, true, false, false, false, false] rfl rfl (by kernel_rfl) (by decide) (fun K hK => ?_)
  refine value_ (v := .slice (some ⟨w3.heap.size, 0, none⟩) 1 1) (w1 := w3.alloc (.cells ([.int .i64 x.f0, .int .i64 x.f1, .int .i64 x.f2, .int .i64 x.f3, .int .u64 x.f4, .int .i64 x.f5, .slice A3 x.f6.length C3] : List Value).toArray 56)) (by rfl) rfl ?_ ?_
  · go_simp
  refine hK.out _ _ ⟨(blk_cell (blk_alloc HG2.out _) 0).trans rfl, (blk_cell (blk_alloc HX2.out _) 0).trans rfl, (blk_cell (blk_alloc HX2.out _) 1).trans rfl, (blk_cell (blk_alloc HX2.out _) 2).trans rfl, (blk_cell (blk_alloc HX2.out _) 3).trans rfl, (blk_cell (blk_alloc HX2.out _) 4).trans rfl, (blk_cell (blk_alloc HX2.out _) 5).trans rfl, (blk_cell (blk_alloc HX2.out _) 6).trans rfl⟩ (fun hHeld => ?_)
  clear hK K
  refine norm_ (a' := ?_) ?_ ?_
  rotate_left
  · show Act.put _ (some 13) _ = _
    simp only [Act.put, List.setIfInBounds_toArray, List.set_cons_zero, List.set_cons_succ, i64_w, i32_w]
    rfl
  refine one_ (i := 8) (N := some 14) #[true, true, true, true, true, true, true, true, true, false, false, false] rfl rfl (by kernel_rfl) (by decide) (fun K hK => ?_)
  refine Kd.S_append_step k56 (w0 := w0) w0.heap.size (by rfl) (.tmp 10) (.tmp 13) 49 56 (.agg #[(.int .i64 0), (.int .i64 0), (.int .i64 0), (.int .i64 0), (.int .u64 0), (.int .i64 0), (.slice none 0 0)]) 72 rfl Try.underlying49 info56 rfl (by decide) (by omega) v xs x [.int .i64 x.f0, .int .i64 x.f1, .int .i64 x.f2, .int .i64 x.f3, .int .u64 x.f4, .int .i64 x.f5, .slice A3 x.f6.length C3] (fun k_ => k_ ≠ g ∧ k_ ≠ b) (fun k_ => some k_ = (.slice A3 x.f6.length C3 : Value).ownBlock) rfl rfl ?aP (fun k_ hk_ => ((Kd.R_mono (ok' := fun k_ => (k_ ≠ g ∧ k_ ≠ b) ∧ some k_ ≠ v.ownBlock) (Kd.R_types (Kd.R_types (Kd.R_apart' HN2.out (Kd.S_typed HO2.out) (by decide)) HG2.out (by decide)) HX2.out (by decide)) (fun k_ hk => ⟨⟨hk.1.2, hk.2⟩, hk.1.1.2⟩)).1 k_ hk_.symm)) ?aF ?aO ?aB ?aS ?aL ?_
  case aP => exact k56_mkM _ _ _ x (Kd.R_mono (Kd.R_tight rfl (Kd.R_mono (ok' := fun k_ => (k_ ≠ g ∧ k_ ≠ b) ∧ some k_ ≠ v.ownBlock) (Kd.R_types (Kd.R_types (Kd.R_apart' HN2.out (Kd.S_typed HO2.out) (by decide)) HG2.out (by decide)) HX2.out (by decide)) (fun k_ hk => ⟨⟨hk.1.2, hk.2⟩, hk.1.1.2⟩))) (fun _ h_ => h_))
  case aF => exact (fun k_ hk => ⟨Kd.freshB HG2.out k_ hk, Kd.freshB HX2.out k_ hk⟩)
  case aO => exact Kd.S_mono HO2.out (fun k_ hk => ⟨hk.1, hk.2⟩)
  case aB => exact HB2.out
  case aS => exact HB2.out.size
  case aL => have := HL.out; omega
  intro v4 w4 ho4 hb4 hg4 hat4
  obtain ⟨A4, C4, e4⟩ := Kd.S_slice ho4
  subst e4
  have HG3 := Aside0.mk (blk_grown HG2.out hg4 (Kd.S_away HO2.out (fun _ hk => hk.1.1)))
  have HX3 := Aside0.mk (blk_grown HX2.out hg4 (Kd.S_away HO2.out (fun _ hk => hk.1.2)))
  refine hK.out _ _ ⟨(blk_cell HG3.out 0).trans rfl, (blk_cell HX3.out 0).trans rfl, (blk_cell HX3.out 1).trans rfl, (blk_cell HX3.out 2).trans rfl, (blk_cell HX3.out 3).trans rfl, (blk_cell HX3.out 4).trans rfl, (blk_cell HX3.out 5).trans rfl, (blk_cell HX3.out 6).trans rfl⟩ (fun hHeld => ?_)
  clear hK K
  refine norm_ (a' := ?_) ?_ ?_
  rotate_left
  · show Act.put _ (some 14) _ = _
    simp only [Act.put, List.setIfInBounds_toArray, List.set_cons_zero, List.set_cons_succ, i64_w, i32_w]
    rfl
  refine pure_ (i := 9) (N := some 15) (v := ?_) (a' := ?_) #[true, true, true, true, true, true, true, true, true, true, false, false] rfl rfl (by kernel_rfl) (fun _ _ _ h => h) (Or.inl ⟨by rfl, ?_⟩) ?_ ?_
  rotate_left
  · intro w'
    go_simp
    with_reducible rfl
  rotate_left
  · simp only [Act.put, List.setIfInBounds_toArray, List.set_cons_zero, List.set_cons_succ, i64_w, i32_w]
    rfl
  refine pure_ (i := 10) (N := some 16) (v := ?_) (a' := ?_) #[true, true, true, true, true, true, true, true, true, true, true, false] rfl rfl (by kernel_rfl) (fun _ _ _ h => h) (Or.inl ⟨by rfl, ?_⟩) ?_ ?_
  rotate_left
  · intro w'
    go_simp
    with_reducible rfl
  rotate_left
  · simp only [Act.put, List.setIfInBounds_toArray, List.set_cons_zero, List.set_cons_succ, i64_w, i32_w]
    rfl
  refine last_ (i := 11) (N := none) #[true, true, true, true, true, true, true, true, true, true, true, true] rfl rfl (by kernel_rfl) (by decide) (fun K hK => ?_)
  have hs5 : w4.cell? ⟨g, 0, none⟩ = some v := (blk_cell HG3.out 0).trans rfl
  have hf5 := blk_frozen HG3.out 0
  refine skip_ (w1 := ?_) (by rfl) rfl ?_ ?_
  rotate_left
  · go_simp
    rfl
  refine hK.out _ _ ?_
  clear hK K
  refine done_ (by kernel_rfl) ?_
  try go_wp2
  refine bodyPost_end (v := .tuple #[]) (results_none rfl _ _ _) rfl ?_
  have hgb := HGE.out
  exact ⟨rfl, ⟨_, by simpa using blk_set HG3.out 0 (.slice A4 (xs ++ [x]).length C4), hgb, Kd.S_mono (Kd.S_far (p := ⟨g, 0, none⟩) ho4 (fun _ hk => hk.1) _) (fun _ hk => hk.1)⟩, below_set hb4 hgb⟩
theorem note_nil (c0 c1 c2 c3 c4 c5 c6 : Value) (w : World) :
    Calls Try.prog 39 #[.pointer none, .agg #[c0, c1, c2, c3, c4, c5, c6]] w fun e w' => e = .returned (.tuple #[]) ∧ Below w.heap.size w w' := by
  go_enter Try.func39, Try.ntmps39
  go_wp2
  refine bodyPost_end (v := .tuple #[]) (results_none rfl _ _ _) rfl ?_
  exact ⟨rfl, below_alloc (Below.refl _ _) _⟩
theorem newlog_calls (w0 w : World) (hB : Below w0.heap.size w0 w) :
    Calls Try.prog 43 #[] w fun e w' => ∃ g : Nat, e = .returned (.pointer (some ⟨g, 0, none⟩)) ∧ LogAt w0.heap.size w' g (.slice none 0 0) [] ∧ Below w0.heap.size w0 w' := by
  go_enter Try.func43, Try.ntmps43
  go_wp2
  go_ret
  exact ⟨_, rfl, ⟨by simpa using heap_alloc_new w _, hB.size, Kd.S_nil _ _ _ _ _⟩, below_alloc hB _⟩
theorem len_calls (base g : Nat) (v : Value) (xs : List S56) (w : World) (hL : LogAt base w g v xs) :
    Calls Try.prog 40 #[.pointer (some ⟨g, 0, none⟩)] w fun e w' => e = .returned (.int .i64 xs.length) ∧ w = w' := by
  obtain ⟨A, C, rfl⟩ := Kd.S_slice hL.own
  have hs := blk_cell hL.blk 0
  have hs0 : w.cell? ⟨g, 0, none⟩ = some (.slice A xs.length C) := hs
  clear hs hL
  go_enter Try.func40, Try.ntmps40
  go_wp2
  go_ret
  exact ⟨rfl, rfl⟩
theorem len_nil (w : World) : Calls Try.prog 40 #[.pointer none] w fun e w' => e = .returned (.int .i64 0) ∧ w = w' := by
  go_enter Try.func40, Try.ntmps40
  go_wp2
  go_ret
  exact ⟨rfl, rfl⟩
theorem from_nil (n : Int) (w : World) : Calls Try.prog 41 #[.pointer none, .int .i64 n] w fun e w' => e = .returned (.slice none 0 0) ∧ w = w' := by
  go_enter Try.func41, Try.ntmps41
  go_wp2
  go_ret
  exact ⟨rfl, rfl⟩
set_option maxHeartbeats 4000000 in
set_option maxRecDepth 100000 in
theorem from_calls (k base g : Nat) (v : Value) (xs : List S56) (n : Int) (m : Nat) (w : World) (hL : LogAt base w g v xs) (hm : mn (mx n 0) (xs.length : Int) = (m : Int)) (hml : m ≤ xs.length) (hf : event_Copy.f k (xs.drop m) = some (xs.drop m)) :
    Calls Try.prog 41 #[.pointer (some ⟨g, 0, none⟩), .int .i64 n] w fun e w' => ∃ A' c', e = .returned (.slice A' (xs.drop m).length c') ∧ (xs.drop m).length ≤ c' ∧ Kd.C k56 w' A' (xs.drop m).length (xs.drop m) ∧ Below w.heap.size w w' := by
  obtain ⟨A, C, rfl⟩ := Kd.S_slice hL.own
  have hu87 := Try.underlying87
  have HR := Aside0.mk (Kd.S_reads' hL.own).2.2
  have HCC := Aside0.mk (Kd.S_reads' hL.own).2.1
  have HG := Aside0.mk hL.blk
  have hs0 : w.cell? ⟨g, 0, none⟩ = some (.slice A xs.length C) := (blk_cell hL.blk 0).trans rfl
  have HF := Aside0.mk hf
  clear hL hf
  have hm2 : (if (xs.length : Int) < (if n < 0 then 0 else n) then (xs.length : Int) else if n < 0 then 0 else n) = (m : Int) := hm
  go_enter Try.func41, Try.ntmps41
  go_wp2_with fail
  clear hs0
  refine start_ (n := 15) (S := fun w' => w'.cell? ⟨g, 0, none⟩ = some (.slice A xs.length C) ∧ True) (ds := []) #[false, false, false, false, false, false, false, false, false, false, false, false, false, false, false] (by kernel_rfl) rfl rfl ⟨(blk_cell (blk_drew HG.out) 0).trans rfl, trivial⟩ (fun hHeld => ?_)
  have HG1 := Aside0.mk (blk_drew HG.out)
  have HR1 := Aside0.mk (Kd.C_drew HR.out)
  have HB1 := Aside0.mk (show Below w.heap.size w w.drew from below_drew (Below.refl _ _))
  clear HG HR
  generalize w.drew = w2 at hHeld HG1 HR1 HB1 ⊢
  refine pure_ (i := 0) (N := some 7) (v := ?_) (a' := ?_) #[true, false, false, false, false, false, false, false, false, false, false, false, false, false, false] rfl rfl (by kernel_rfl) (fun _ _ _ h => h) (Or.inl ⟨by rfl, ?_⟩) ?_ ?_
  rotate_left
  · intro w'
    go_simp
    with_reducible rfl
  rotate_left
  · simp only [Act.put, List.setIfInBounds_toArray, List.set_cons_zero, List.set_cons_succ, i64_w, i32_w]
    rfl
  refine pure_ (i := 1) (N := some 8) (v := ?_) (a' := ?_) #[true, true, false, false, false, false, false, false, false, false, false, false, false, false, false] rfl rfl (by kernel_rfl) (fun _ _ _ h => h) (Or.inl ⟨by rfl, ?_⟩) ?_ ?_
  rotate_left
  · intro w'
    go_simp
    with_reducible rfl
  rotate_left
  · simp only [Act.put, List.setIfInBounds_toArray, List.set_cons_zero, List.set_cons_succ, i64_w, i32_w]
    rfl
  refine pure_ (i := 2) (N := some 9) (v := ?_) (a' := ?_) #[true, true, true, false, false, false, false, false, false, false, false, false, false, false, false] rfl rfl (by kernel_rfl) (fun _ _ _ h => h) (Or.inl ⟨by rfl, ?_⟩) ?_ ?_
  rotate_left
  · intro w'
    go_simp
    with_reducible rfl
  rotate_left
  · simp only [Act.put, List.setIfInBounds_toArray, List.set_cons_zero, List.set_cons_succ, i64_w, i32_w]
    rfl
  refine pure_ (i := 4) (N := some 11) (v := ?_) (a' := ?_) #[true, true, true, false, true, false, false, false, false, false, false, false, false, false, false] rfl rfl (by kernel_rfl) (fun _ _ _ h => h) (Or.inl ⟨by rfl, ?_⟩) ?_ ?_
  rotate_left
  · intro w'
    go_simp
    with_reducible rfl
  rotate_left
  · simp only [Act.put, List.setIfInBounds_toArray, List.set_cons_zero, List.set_cons_succ, i64_w, i32_w]
    rfl
  refine pure_ (i := 5) (N := some 12) (v := ?_) (a' := ?_) #[true, true, true, false, true, true, false, false, false, false, false, false, false, false, false] rfl rfl (by kernel_rfl) (fun _ _ _ h => h) (Or.inl ⟨by rfl, ?_⟩) ?_ ?_
  rotate_left
  · intro w'
    go_simp
    with_reducible rfl
  rotate_left
  · simp only [Act.put, List.setIfInBounds_toArray, List.set_cons_zero, List.set_cons_succ, i64_w, i32_w]
    rfl
  refine pure_ (i := 6) (N := some 13) (v := ?_) (a' := ?_) #[true, true, true, false, true, true, true, false, false, false, false, false, false, false, false] rfl rfl (by kernel_rfl) (fun _ _ _ h => h) (Or.inl ⟨by rfl, ?_⟩) ?_ ?_
  rotate_left
  · intro w'
    go_simp
    with_reducible rfl
  rotate_left
  · simp only [Act.put, List.setIfInBounds_toArray, List.set_cons_zero, List.set_cons_succ, i64_w, i32_w]
    rfl
  refine pure_ (i := 7) (N := some 14) (v := ?_) (a' := ?_) #[true, true, true, false, true, true, true, true, false, false, false, false, false, false, false] rfl rfl (by kernel_rfl) (fun _ _ _ h => h) (Or.inl ⟨by rfl, ?_⟩) ?_ ?_
  rotate_left
  · intro w'
    go_simp
    with_reducible rfl
  rotate_left
  · simp only [Act.put, List.setIfInBounds_toArray, List.set_cons_zero, List.set_cons_succ, i64_w, i32_w]
    rfl
  refine pure_ (i := 8) (N := some 15) (v := ?_) (a' := ?_) #[true, true, true, false, true, true, true, true, true, false, false, false, false, false, false] rfl rfl (by kernel_rfl) (fun _ _ _ h => h) (Or.inl ⟨by rfl, ?_⟩) ?_ ?_
  rotate_left
  · intro w'
    go_simp
    with_reducible rfl
  rotate_left
  · simp only [Act.put, List.setIfInBounds_toArray, List.set_cons_zero, List.set_cons_succ, i64_w, i32_w]
    rfl
  refine take_ (i := 3) (N := some 10) (v := ?_) (a' := ?_) #[true, true, true, true, true, true, true, true, true, false, false, false, false, false, false] rfl rfl (by kernel_rfl) (fun _ _ _ h => h) (Or.inl ⟨by rfl, ?_⟩) hHeld ?_ ?_
  rotate_left
  · rintro w' ⟨s0, s1⟩
    go_simp
    with_reducible rfl
  rotate_left
  · simp only [Act.put, List.setIfInBounds_toArray, List.set_cons_zero, List.set_cons_succ, i64_w, i32_w]
    rfl
  refine take_ (i := 9) (N := some 16) (v := ?_) (a' := ?_) #[true, true, true, true, true, true, true, true, true, true, false, false, false, false, false] rfl rfl (by kernel_rfl) (fun _ _ _ h => h) (Or.inl ⟨by rfl, ?_⟩) hHeld ?_ ?_
  rotate_left
  · rintro w' ⟨s0, s1⟩
    go_simp
    with_reducible rfl
  rotate_left
  · simp only [Act.put, List.setIfInBounds_toArray, List.set_cons_zero, List.set_cons_succ, i64_w, i32_w]
    rfl
  refine pure_ (i := 10) (N := some 17) (v := ?_) (a' := ?_) #[true, true, true, true, true, true, true, true, true, true, true, false, false, false, false] rfl rfl (by kernel_rfl) (fun _ _ _ h => h) (Or.inl ⟨by rfl, ?_⟩) ?_ ?_
  rotate_left
  · intro w'
    go_simp
    with_reducible rfl
  rotate_left
  · simp only [Act.put, List.setIfInBounds_toArray, List.set_cons_zero, List.set_cons_succ, i64_w, i32_w]
    rfl
  refine pure_ (i := 11) (N := some 18) (v := ?_) (a' := ?_) #[true, true, true, true, true, true, true, true, true, true, true, true, false, false, false] rfl rfl (by kernel_rfl) (fun _ _ _ h => h) (Or.inl ⟨by rfl, ?_⟩) ?_ ?_
  rotate_left
  · intro w'
    go_simp
    with_reducible rfl
  rotate_left
  · simp only [Act.put, List.setIfInBounds_toArray, List.set_cons_zero, List.set_cons_succ, i64_w, i32_w]
    rfl
  refine pure_ (i := 12) (N := some 19) (v := ?_) (a' := ?_) #[true, true, true, true, true, true, true, true, true, true, true, true, true, false, false] rfl rfl (by kernel_rfl) (fun _ _ _ h => h) (Or.inl ⟨by rfl, ?_⟩) ?_ ?_
  rotate_left
  · intro w'
    go_simp
    with_reducible rfl
  rotate_left
  · simp only [Act.put, List.setIfInBounds_toArray, List.set_cons_zero, List.set_cons_succ, i64_w, i32_w]
    rfl
  refine one_ (i := 13) (N := some 20) #[true, true, true, true, true, true, true, true, true, true, true, true, true, true, false] rfl rfl (by kernel_rfl) (by decide) (fun K hK => ?_)
  have HDR := Aside0.mk (show Kd.C k56 w2 (if C = m then A else A.map (·.add (m * 7))) (xs.drop m).length (xs.drop m) from Kd.C_drop HR1.out hml HCC.out)
  refine goes_ Try.func55 (by kernel_rfl) rfl #[.slice (if C = m then A else A.map (·.add (m * 7))) (xs.drop m).length (C - m)] (by rfl) rfl rfl (by (try simp only [List.map_toArray, List.map_cons, List.map_nil]); first | done | rfl | (simp only [List.length_drop]; rfl)) ?_
  with_reducible refine (event_Copy.calls k (if C = m then A else A.map (·.add (m * 7))) (C - m) (xs.drop m) (xs.drop m) _ HDR.out (by have := HCC.out; rw [List.length_drop]; omega) HF.out).mono ?_
  rintro e w3 ⟨v3, rfl, ho3, hb3⟩
  refine ⟨_, rfl, ?_⟩
  obtain ⟨A3, C3, rfl, h31, h32⟩ := Kd.S_reads ho3
  refine hK.out _ _ ⟨(blk_cell (blk_below HG1.out hb3) 0).trans rfl, trivial⟩ (fun hHeld => ?_)
  clear hK K
  refine norm_ (a' := ?_) ?_ ?_
  rotate_left
  · show Act.put _ (some 20) _ = _
    simp only [Act.put, List.setIfInBounds_toArray, List.set_cons_zero, List.set_cons_succ, i64_w, i32_w]
    rfl
  refine pure_ (i := 14) (N := some 4) (v := ?_) (a' := ?_) #[true, true, true, true, true, true, true, true, true, true, true, true, true, true, true] rfl rfl (by kernel_rfl) (fun _ _ _ h => h) (Or.inl ⟨by rfl, ?_⟩) ?_ ?_
  rotate_left
  · intro w'
    go_simp
    with_reducible rfl
  rotate_left
  · simp only [Act.put, List.setIfInBounds_toArray, List.set_cons_zero, List.set_cons_succ, i64_w, i32_w]
    rfl
  clear hm2 hm
  generalize (if C = m then A else Option.map (fun x => x.add (m * 7)) A) = AA
  rw [List.length_drop] at h31 h32
  refine done_ (by kernel_rfl) ?_
  try go_wp2
  all_goals (go_ret; exact ⟨A3, C3, rfl, by omega, h32, below_step HB1.out hb3⟩)
theorem fill_nil (n : Int) (v : Value) (w : World) : Calls Try.prog 42 #[.pointer none, .int .i64 n, v] w fun e w' => e = .returned (.bool false) ∧ w = w' := by
  go_enter Try.func42, Try.ntmps42
  go_wp2
  go_ret
  exact ⟨rfl, rfl⟩
theorem fill_out (base g : Nat) (v : Value) (xs : List S56) (n : Int) (u : Value) (w : World) (hL : LogAt base w g v xs) (hn : n < 0 ∨ (xs.length : Int) ≤ n) :
    Calls Try.prog 42 #[.pointer (some ⟨g, 0, none⟩), .int .i64 n, u] w fun e w' => e = .returned (.bool false) ∧ w = w' := by
  obtain ⟨A, C, rfl⟩ := Kd.S_slice hL.own
  have hs0 : w.cell? ⟨g, 0, none⟩ = some (.slice A xs.length C) := (blk_cell hL.blk 0).trans rfl
  clear hL
  by_cases h : n < 0
  · have h1 : decide (n < 0) = true := decide_eq_true h
    clear hn h
    go_enter Try.func42, Try.ntmps42
    go_wp2
    go_ret
    exact ⟨rfl, rfl⟩
  · have h1 : decide (n < 0) = false := decide_eq_false h
    have h2 : decide ((xs.length : Int) ≤ n) = true := decide_eq_true (by omega)
    clear hn h
    go_enter Try.func42, Try.ntmps42
    go_wp2
    go_ret
    exact ⟨rfl, rfl⟩
def filled (x : S56) (ks : List Int) : S56 := ⟨x.f0, x.f1, x.f2, x.f3, x.f4, x.f5, ks⟩
set_option maxHeartbeats 8000000 in
set_option maxRecDepth 100000 in
theorem fill_in (g : Nat) (v : Value) (xs : List S56) (i : Int) (B : Option Addr) (D : Nat) (ks : List Int) (w0 w : World) (hL : LogAt w0.heap.size w g v xs) (hB : Below w0.heap.size w0 w) (hR : Kd.C (Kd.int .i64) w B ks.length ks) (hD : ks.length ≤ D) (h0 : 0 ≤ i) (hi : i < xs.length) (hk : ks.length ≤ 1000) :
    Calls Try.prog 42 #[.pointer (some ⟨g, 0, none⟩), .int .i64 i, .slice B ks.length D] w fun e w' => e = .returned (.bool true) ∧ LogAt w0.heap.size w' g v (xs.set i.toNat (filled (rd_T56 xs i) ks)) ∧ Below w0.heap.size w0 w' ∧ (∀ k, k < w.heap.size → some k ≠ v.ownBlock → w'.heap[k]? = w.heap[k]?) := by
  obtain ⟨gb, C, rfl, hgb, hglt, cl, hcl⟩ := Kd.S_form hL.own (by omega)
  have hu87 := Try.underlying87
  have hu56 := Try.underlying56
  have hs0 : w.cell? ⟨g, 0, none⟩ = some (.slice (some ⟨gb, 0, none⟩) xs.length C) := (blk_cell hL.blk 0).trans rfl
  have HG := Aside0.mk hL.blk
  have HGE := Aside0.mk hL.ge
  have HO := Aside0.mk hL.own
  have HR := Aside0.mk hR
  have HB := Aside0.mk hB
  have HD := Aside0.mk hD
  have HI := Aside0.mk hi
  have HI0 := Aside0.mk h0
  have HKL := Aside0.mk hk
  have HGB := Aside0.mk hgb
  have HGN := Aside0.mk (show g ≠ gb from fun e => Kd.S_away hL.own (fun _ hk => hk) (by rw [e]; simp [Value.ownBlock]))
  have h1 : decide (i < 0) = false := decide_eq_false (by omega)
  have h2 : decide ((xs.length : Int) ≤ i) = false := decide_eq_false (by omega)
  clear hL hR hB hD hi h0 hk hgb hglt hcl
  go_enter Try.func42, Try.ntmps42
  go_wp2_with fail
  clear hs0
  refine start_ (n := 11) (S := fun w' => w'.cell? ⟨g, 0, none⟩ = some (.slice (some ⟨gb, 0, none⟩) xs.length C) ∧ True) (ds := [10]) #[false, false, false, false, false, false, false, false, false, false, false] (by kernel_rfl) rfl rfl ⟨(blk_cell (blk_drew HG.out) 0).trans rfl, trivial⟩ (fun hHeld => ?_)
  have HG1 := Aside0.mk (blk_drew HG.out)
  have HO1 := Aside0.mk (Kd.S_drew HO.out)
  have HR1 := Aside0.mk (Kd.C_drew HR.out)
  have HB1 := Aside0.mk (below_drew1 HB.out)
  have HK1 := Aside0.mk (show ∀ k, k < w.heap.size → w.drew.heap[k]? = w.heap[k]? from fun k hk => rfl)
  have HS1 := Aside0.mk (show w.heap.size ≤ w.drew.heap.size from Nat.le_refl _)
  clear HG HO HR HB
  generalize w.drew = w2 at hHeld HG1 HO1 HR1 HB1 HK1 HS1 ⊢
  refine pure_ (i := 0) (N := some 22) (v := ?_) (a' := ?_) #[true, false, false, false, false, false, false, false, false, false, false] rfl rfl (by kernel_rfl) (fun _ _ _ h => h) (Or.inl ⟨by rfl, ?_⟩) ?_ ?_
  rotate_left
  · intro w'
    go_simp
    with_reducible rfl
  rotate_left
  · simp only [Act.put, List.setIfInBounds_toArray, List.set_cons_zero, List.set_cons_succ, i64_w, i32_w]
    rfl
  refine pure_ (i := 1) (N := some 23) (v := ?_) (a' := ?_) #[true, true, false, false, false, false, false, false, false, false, false] rfl rfl (by kernel_rfl) (fun _ _ _ h => h) (Or.inl ⟨by rfl, ?_⟩) ?_ ?_
  rotate_left
  · intro w'
    go_simp
    with_reducible rfl
  rotate_left
  · simp only [Act.put, List.setIfInBounds_toArray, List.set_cons_zero, List.set_cons_succ, i64_w, i32_w]
    rfl
  refine pure_ (i := 2) (N := some 24) (v := ?_) (a' := ?_) #[true, true, true, false, false, false, false, false, false, false, false] rfl rfl (by kernel_rfl) (fun _ _ _ h => h) (Or.inl ⟨by rfl, ?_⟩) ?_ ?_
  rotate_left
  · intro w'
    go_simp
    with_reducible rfl
  rotate_left
  · simp only [Act.put, List.setIfInBounds_toArray, List.set_cons_zero, List.set_cons_succ, i64_w, i32_w]
    rfl
  refine pure_ (i := 4) (N := some 26) (v := ?_) (a' := ?_) #[true, true, true, false, true, false, false, false, false, false, false] rfl rfl (by kernel_rfl) (fun _ _ _ h => h) (Or.inl ⟨by rfl, ?_⟩) ?_ ?_
  rotate_left
  · intro w'
    go_simp
    with_reducible rfl
  rotate_left
  · simp only [Act.put, List.setIfInBounds_toArray, List.set_cons_zero, List.set_cons_succ, i64_w, i32_w]
    rfl
  refine pure_ (i := 6) (N := some 28) (v := ?_) (a' := ?_) #[true, true, true, false, true, false, true, false, false, false, false] rfl rfl (by kernel_rfl) (fun _ _ _ h => h) (Or.inl ⟨by rfl, ?_⟩) ?_ ?_
  rotate_left
  · intro w'
    go_simp
    with_reducible rfl
  rotate_left
  · simp only [Act.put, List.setIfInBounds_toArray, List.set_cons_zero, List.set_cons_succ, i64_w, i32_w]
    rfl
  refine take_ (i := 3) (N := some 25) (v := ?_) (a' := ?_) #[true, true, true, true, true, false, true, false, false, false, false] rfl rfl (by kernel_rfl) (fun _ _ _ h => h) (Or.inl ⟨by rfl, ?_⟩) hHeld ?_ ?_
  rotate_left
  · rintro w' ⟨s0, s1⟩
    go_simp
    with_reducible rfl
  rotate_left
  · simp only [Act.put, List.setIfInBounds_toArray, List.set_cons_zero, List.set_cons_succ, i64_w, i32_w]
    rfl
  refine one_ (i := 5) (N := some 27) #[true, true, true, true, true, true, true, false, false, false, false] rfl rfl (by kernel_rfl) (by decide) (fun K hK => ?_)
  refine Kd.R_lit_step (Kd.int .i64) (w0 := w2) w2.heap.size 3 (by rfl) (N := 27) rfl (xs := ([] : List Int)) (inner := []) (ok := fun _ => True) (okp := fun _ => True) ?hr ?hp (fun _ hk => hk) trivial (Below.refl _ _) (Nat.le_refl _) (by simp) ?_
  case hr => first | (go_simp; done) | (go_simp; rfl)
  case hp => exact (Reps.none _ _)
  intro v3 w3 ho3 hb3 hg3 hnew3
  have HG2 := Aside0.mk (blk_below HG1.out hb3)
  have HO2 := Aside0.mk (Kd.S_elder' HO1.out (Kd.R_base ho3) hb3)
  have HB2 := Aside0.mk (below_step HB1.out hb3)
  have HN2 := Aside0.mk (Kd.R_lower ho3 HB1.out.size)
  have HR2 := Aside0.mk (Kd.C_below HR1.out hb3)
  have HK2 := Aside0.mk (show ∀ k, k < w.heap.size → w3.heap[k]? = w.heap[k]? from fun k hk => (hb3.block k (Nat.lt_of_lt_of_le hk HS1.out)).trans (HK1.out k hk))
  have HV2 := Aside0.mk (show ∀ k, v3.ownBlock = some k → w.heap.size ≤ k from fun k hk => Nat.le_trans HS1.out (Kd.R_base ho3 k hk))
  have HS2 := Aside0.mk (Nat.le_trans HS1.out hb3.size)
  clear HG1 HO1 HB1 HR1 HK1 HS1 ho3 hb3 hg3 hnew3
  refine hK.out _ _ ⟨(blk_cell HG2.out 0).trans rfl, trivial⟩ (fun hHeld => ?_)
  clear hK K
  refine norm_ (a' := ?_) ?_ ?_
  rotate_left
  · show Act.put _ (some 27) _ = _
    simp only [Act.put, List.setIfInBounds_toArray, List.set_cons_zero, List.set_cons_succ, i64_w, i32_w]
    rfl
  refine one_ (i := 7) (N := some 29) #[true, true, true, true, true, true, true, true, false, false, false] rfl rfl (by kernel_rfl) (by decide) (fun K hK => ?_)
  refine Kd.R_append_rows_step (Kd.int .i64) (w0 := w0) w0.heap.size (by rfl) (.tmp 27) (.tmp 28) 50 3 (.int .i64 0) 8 rfl Try.underlying50 info3 rfl (by decide) (by omega) v3 ([] : List Int) ks _ _ _ (fun _ => True) (fun _ => False) rfl rfl ?aO ?aR (fun _ _ h => h) (fun _ h => h.elim) ?aF ?aB ?aS ?aL ?_
  case aR => exact HR2.out
  case aB => exact HB2.out
  case aF => exact (fun _ _ => trivial)
  case aO => exact HN2.out
  case aS => exact HB2.out.size
  case aL => have := HKL.out; simp; omega
  intro v4 w4 ho4 hb4 hg4 hat4
  rw [List.nil_append] at ho4
  obtain ⟨A4, C4, e4⟩ := Kd.R_slice ho4
  subst e4
  have HG3 := Aside0.mk (blk_grown HG2.out hg4 (Kd.R_ne HN2.out HG2.out (by decide)))
  have HO3 := Aside0.mk (Kd.S_after HO2.out hg4 hat4)
  have HK3 := Aside0.mk (show ∀ k, k < w.heap.size → w4.heap[k]? = w.heap[k]? from fun k hk => (hg4.block k (Nat.lt_of_lt_of_le hk HS2.out) (fun e => absurd (HV2.out k e.symm) (by omega))).trans (HK2.out k hk))
  refine hK.out _ _ ⟨(blk_cell HG3.out 0).trans rfl, trivial⟩ (fun hHeld => ?_)
  clear hK K
  refine norm_ (a' := ?_) ?_ ?_
  rotate_left
  · show Act.put _ (some 29) _ = _
    simp only [Act.put, List.setIfInBounds_toArray, List.set_cons_zero, List.set_cons_succ, i64_w, i32_w]
    rfl
  have q1 : 0 ≤ i := HI0.out
  have q2 : i < (xs.length : Int) := HI.out
  refine pure_ (i := 8) (N := some 30) (v := ?_) (a' := ?_) #[true, true, true, true, true, true, true, true, true, false, false] rfl rfl (by kernel_rfl) (fun _ _ _ h => h) (Or.inl ⟨by rfl, ?_⟩) ?_ ?_
  rotate_left
  · intro w'
    go_simp
    with_reducible rfl
  rotate_left
  · simp only [Act.put, List.setIfInBounds_toArray, List.set_cons_zero, List.set_cons_succ, i64_w, i32_w]
    rfl
  refine pure_ (i := 9) (N := some 31) (v := ?_) (a' := ?_) #[true, true, true, true, true, true, true, true, true, true, false] rfl rfl (by kernel_rfl) (fun _ _ _ h => h) (Or.inl ⟨by rfl, ?_⟩) ?_ ?_
  rotate_left
  · intro w'
    go_simp
    with_reducible rfl
  rotate_left
  · simp only [Act.put, List.setIfInBounds_toArray, List.set_cons_zero, List.set_cons_succ, i64_w, i32_w]
    rfl
  refine last_ (i := 10) (N := none) #[true, true, true, true, true, true, true, true, true, true, true] rfl rfl (by kernel_rfl) (by decide) (fun K hK => ?_)
  obtain ⟨oki, ce, hcl, hM, hcc, hfr, hoki, hH⟩ := Kd.S_elem HO3.out z56 i q1 q2
  obtain ⟨ve, rfl, gem⟩ := k56_openM hM
  have hs6 : w4.cell? ⟨gb, i.toNat * 7 + 6, none⟩ = some ve := hcc 6 _ rfl
  have hf6 : w4.frozen? ⟨gb, i.toNat * 7 + 6, none⟩ = false := hfr 6
  have hng : ∀ k, some k = (.slice A4 ks.length C4 : Value).ownBlock → k ≠ g ∧ k ≠ gb := fun k hk => ⟨(Kd.R_types ho4 HG3.out (by decide)).1 k hk.symm |>.2, fun e => absurd (show some gb = (.slice A4 ks.length C4 : Value).ownBlock by rw [← e]; exact hk) (fun e2 => (Kd.R_apart' ho4 (Kd.S_typed HO3.out) (by decide)).1 gb e2.symm |>.2 (by simp [Value.ownBlock]))⟩
  have HP := Aside0.mk (Kd.S_seg (ok := fun k => k ≠ g) (okg := fun k => some k = (.slice A4 ks.length C4 : Value).ownBlock) hH q1 q2 (seg := [.slice A4 ks.length C4]) (j := 6) (show 7 ≤ 7 from by decide) (x' := filled (rd_T56 xs i) ks) (k56_mkM _ _ _ (filled (rd_T56 xs i) ks) (Kd.R_tight rfl ho4)) (fun _ hk => .inr hk) hng)
  clear hcc hfr hH hM gem hng
  refine skip_ (w1 := w4.setCell ⟨gb, i.toNat * 7 + 6, none⟩ (.slice A4 ks.length C4)) (by rfl) rfl ?_ ?_
  · go_simp
  refine hK.out _ _ ?_
  clear hK K
  refine done_ (by kernel_rfl) ?_
  clear hs6 hf6 q1 q2
  try go_wp2
  go_ret
  have hge := HGE.out
  have hgb := HGB.out
  exact ⟨rfl, ⟨by rw [show (w4.setCell ⟨gb, i.toNat * 7 + 6, none⟩ (.slice A4 ks.length C4)).heap[g]? = w4.heap[g]? from Below.heap_setCell w4 _ _ g (HGN.out)]; exact HG3.out, hge, HP.out.1⟩, below_set hb4 hgb, fun k hk hne => (Below.heap_setCell w4 _ _ k (fun e => hne (by rw [e]; simp [Value.ownBlock]))).trans (HK3.out k hk)⟩
end Go.Proofs.Ytjaiodlfgpndoaa.QEv
