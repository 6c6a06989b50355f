/- sakialaw15's 'live' answers true: the document's example is as it says. -/
import Derived.Test.YtjaiodlfgpndoaaQEvx2
import Derived.Test.YtjaiodlfgpndoaaEvExt
set_option linter.unusedVariables false
set_option linter.unusedSimpArgs false
namespace Go.Proofs.Ytjaiodlfgpndoaa.QEv
open Go.RowKit Go.Proofs.Ytjaiodlfgpndoaa.Words Go.Proofs.YtjaiodlfgpndoaaW.PrintWords Go.Proofs.YtjaiodlfgpndoaaW.PrintLast Go.Proofs.YtjaiodlfgpndoaaW.PrintMore
def ex1 : S56 := ⟨5, 0, 0, 1, 4294967295, 0, [7]⟩
def ex2 : S56 := ⟨5, 0, 0, 2, 0, 0, [8, 9]⟩
def ex3 : S56 := ⟨5, 0, 0, 3, 4294967295, 0, [7, 8, 9]⟩
theorem ex_merge : event_Merge.f 10 32 [ex1, ex2] = some [ex3] := by kernel_rfl
theorem ints_read {W : World} {b : Nat} {l : List Int} (hl : l.length ≤ 100) (h : ∀ j x, l[j]? = some x → W.cell? ⟨b, j, none⟩ = some (.int .i64 x)) : Kd.C (Kd.int .i64) W (some ⟨b, 0, none⟩) l.length l :=
  ⟨rfl, by omega, fun _ => ⟨_, rfl, fun j x hx => ⟨[.int .i64 x], rfl, rfl, fun i u hu => by
    cases i with
    | zero =>
      have e : u = .int .i64 x := by simpa using hu.symm
      subst e
      rw [add_plain]; show W.cell? ⟨b, j * 1 + 0, none⟩ = _; rw [Nat.mul_one]; exact h j x hx
    | succ i => simp at hu⟩⟩⟩
theorem evs_read {W : World} {b c1 c2 : Nat} (g1 : Kd.C (Kd.int .i64) W (some ⟨c1, 0, none⟩) 1 [7]) (g2 : Kd.C (Kd.int .i64) W (some ⟨c2, 0, none⟩) 2 [8, 9])
    (h : ∀ j u, [Value.int .i64 5, .int .i64 0, .int .i64 0, .int .i64 1, .int .u64 4294967295, .int .i64 0, .slice (some ⟨c1, 0, none⟩) 1 1, .int .i64 5, .int .i64 0, .int .i64 0, .int .i64 2, .int .u64 0, .int .i64 0, .slice (some ⟨c2, 0, none⟩) 2 2][j]? = some u → W.cell? ⟨b, j, none⟩ = some u) :
    Kd.C k56 W (some ⟨b, 0, none⟩) [ex1, ex2].length [ex1, ex2] := by
  refine ⟨rfl, by simp, fun _ => ⟨_, rfl, fun j p hp => ?_⟩⟩
  match j, hp with
  | 0, hp =>
    obtain rfl : ex1 = p := by simpa using hp
    refine ⟨_, rfl, k56_mk W ex1 (A6 := some ⟨c1, 0, none⟩) (c6 := 1) (by decide) g1, fun i u hu => ?_⟩
    rw [add_plain]
    refine h _ u ?_
    match i, hu with
    | 0, hu => exact hu
    | 1, hu => exact hu
    | 2, hu => exact hu
    | 3, hu => exact hu
    | 4, hu => exact hu
    | 5, hu => exact hu
    | 6, hu => exact hu
    | i + 7, hu => simp at hu
  | 1, hp =>
    obtain rfl : ex2 = p := by simpa using hp
    refine ⟨_, rfl, k56_mk W ex2 (A6 := some ⟨c2, 0, none⟩) (c6 := 2) (by decide) g2, fun i u hu => ?_⟩
    rw [add_plain]
    refine h _ u ?_
    match i, hu with
    | 0, hu => exact hu
    | 1, hu => exact hu
    | 2, hu => exact hu
    | 3, hu => exact hu
    | 4, hu => exact hu
    | 5, hu => exact hu
    | 6, hu => exact hu
    | i + 7, hu => simp at hu
  | j + 2, hp => simp at hp
theorem cell_new (W : World) (cs : Array Value) (T : TypeId) (j : Nat) (u : Value) (h : cs[j]? = some u) : (W.alloc (.cells cs T)).cell? ⟨W.heap.size, j, none⟩ = some u := by
  have e1 := (MapKept.heap_alloc W (.cells cs T)).1
  unfold World.cell?
  rw [e1]
  exact h
theorem merged (w : World) : Calls Try.prog 45 #[.int .i64 32, .slice (some ⟨w.heap.size + 1 + 1, 0, none⟩) 2 2]
    (((w.alloc (Obj.cells #[Value.int IntKind.i64 7] 3)).alloc (Obj.cells #[Value.int IntKind.i64 8, Value.int IntKind.i64 9] 3)).alloc
      (Obj.cells
        #[Value.int IntKind.i64 5, Value.int IntKind.i64 0, Value.int IntKind.i64 0, Value.int IntKind.i64 1,
          Value.int IntKind.u64 4294967295, Value.int IntKind.i64 0,
          Value.slice (some { block := w.heap.size, off := 0 }) 1 1, Value.int IntKind.i64 5, Value.int IntKind.i64 0,
          Value.int IntKind.i64 0, Value.int IntKind.i64 2, Value.int IntKind.u64 0, Value.int IntKind.i64 0,
          Value.slice (some { block := w.heap.size + 1, off := 0 }) 2 2]
        56)) fun e w' => ∃ g cap A6 c6, e = .returned (.slice (some ⟨g, 0, none⟩) 1 cap) ∧ w'.cell? ⟨g, 3, none⟩ = some (.int .i64 3) ∧ w'.cell? ⟨g, 4, none⟩ = some (.int .u64 4294967295) ∧ w'.cell? ⟨g, 6, none⟩ = some (.slice A6 3 c6) ∧ Below w.heap.size w w' := by
  have s1 : (w.alloc (Obj.cells #[Value.int IntKind.i64 7] 3)).heap.size = w.heap.size + 1 := by show (Array.push _ _).size = _; simp
  have s2 : ((w.alloc (Obj.cells #[Value.int IntKind.i64 7] 3)).alloc (Obj.cells #[Value.int IntKind.i64 8, Value.int IntKind.i64 9] 3)).heap.size = w.heap.size + 1 + 1 := by show (Array.push _ _).size = _; rw [Array.size_push, s1]
  have g1 : Kd.C (Kd.int .i64) (w.alloc (Obj.cells #[Value.int IntKind.i64 7] 3)) (some ⟨w.heap.size, 0, none⟩) [(7 : Int)].length [7] := ints_read (by decide) (fun j x hx => cell_new w _ _ j _ (by
    match j, hx with
    | 0, hx => obtain rfl : 7 = x := by simpa using hx
               rfl
    | j + 1, hx => simp at hx))
  have g2 : Kd.C (Kd.int .i64) ((w.alloc (Obj.cells #[Value.int IntKind.i64 7] 3)).alloc (Obj.cells #[Value.int IntKind.i64 8, Value.int IntKind.i64 9] 3)) (some ⟨w.heap.size + 1, 0, none⟩) [(8 : Int), 9].length [8, 9] := ints_read (by decide) (fun j x hx => by
    rw [← s1]
    refine cell_new _ _ _ j _ ?_
    match j, hx with
    | 0, hx => obtain rfl : 8 = x := by simpa using hx
               rfl
    | 1, hx => obtain rfl : 9 = x := by simpa using hx
               rfl
    | j + 2, hx => simp at hx)
  refine (event_Merge.calls 10 32 _ 2 [ex1, ex2] [ex3] _ (evs_read (Kd.C_alloc (Kd.C_alloc g1 _) _) (Kd.C_alloc g2 _) (fun j u hu => by
    rw [← s2]
    exact cell_new _ _ _ j u (by simpa using hu))) (by decide) ex_merge).mono ?_
  rintro e w1 ⟨v0, rfl, hS, hb⟩
  obtain ⟨g, cap, rfl, _, _, _⟩ := Kd.S_form hS (by decide)
  obtain ⟨c, hcl, hM, hcc⟩ := Kd.S_get hS z56 0 (by omega) (by decide)
  obtain ⟨v6, rfl, g6⟩ := k56_openM hM
  obtain ⟨A6, c6, rfl⟩ := Kd.R_slice g6
  refine ⟨g, cap, A6, c6, rfl, ?_, ?_, ?_, ?_⟩
  · have := hcc 3 _ rfl
    rw [add_plain] at this
    exact this
  · have := hcc 4 _ rfl
    rw [add_plain] at this
    exact this
  · have := hcc 6 _ rfl
    rw [add_plain] at this
    exact this
  · exact below_step (below_alloc (below_alloc (below_alloc (Below.refl _ _) _) _) _) hb
set_option maxHeartbeats 1000000 in
set_option maxRecDepth 100000 in
theorem live15 (w : World) : Calls Try.prog 37 #[] w fun e w' => e = .returned (.bool true) ∧ Below w.heap.size w w' := by
  have k5 : kindWord 5 = (⟨#[112, 117, 116]⟩ : ByteArray) := rfl
  have o5 : opOf (⟨#[115, 101, 110, 100]⟩ : ByteArray) = 5 := by decide +kernel
  go_enter Try.func37, Try.ntmps37
  go_wp2_with fail
  refine (merged w).mono ?_
  rintro e w1 ⟨g, cap, A6, c6, rfl, h3, h4, h6, hb⟩
  have HB := Aside0.mk hb
  clear hb
  go_wp2_with (first | (go_at_call 31; refine (Words.kindWord_any _ _).mono ?_; rintro e w2 ⟨rfl, hb2⟩; have HB2 := Aside0.mk (below_step HB.out hb2); clear hb2) | (go_at_call 36; refine (Words.opOf_any _ _).mono ?_; rintro e w3 ⟨rfl, hb3⟩; have HB3 := Aside0.mk (below_step HB2.out hb3); clear hb3))
  go_ret
  exact ⟨rfl, HB3.out⟩
def sakialaw15_live.f : Option Bool := some true
theorem sakialaw15_live.calls (r : Bool) (w : World) (h : sakialaw15_live.f = some r) : Calls Try.prog 37 #[] w fun e w' => e = .returned (.bool r) ∧ Below w.heap.size w w' := by
  obtain rfl := Option.some.inj h
  exact live15 w
end Go.Proofs.Ytjaiodlfgpndoaa.QEv
