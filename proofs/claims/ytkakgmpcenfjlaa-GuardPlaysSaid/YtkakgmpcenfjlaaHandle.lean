/- The contracts of package guard's handles, for counters of 32 and of 64 digits: what each method answers of a handle's cells, and how the cells stand behind it; all else in memory stays. -/
import Derived.Test.YtkakgmpcenfjlaaProg
import Derived.Test.YtkakgmpcenfjlaaWWords
import Derived.WalkKit
import Derived.KernelRfl
import Derived.RowKit3
import Derived.Laws.BitsLemmas
import Derived.Below
import Derived.WalkSmall
import Derived.Handy
import Derived.Deep.QuietTactic
import Derived.BigQuiet
import Derived.RegionTactic
import Derived.ChangeAlike
import Derived.StillTailTactics
set_option linter.unusedVariables false
set_option linter.unusedSimpArgs false
set_option maxRecDepth 100000
namespace Go.Proofs.Ytkakgmpcenfjlaa.Handle
open Go.RowKit Go.Proofs.YtkakgmpcenfjlaaW.PrintWords
structure Aside (p : Prop) : Prop where mk :: (out : p)
def s32 (x : Int) : Int := wrap64 (wrap32 x)
def d32 (a b : Int) : Int := s32 ((a - b) % 4294967296)
def d64 (a b : Int) : Int := wrap64 (IntKind.u64.wrap (a - b))
def a32 (a n : Int) : Int := (a + n % 4294967296) % 4294967296
def a64 (a n : Int) : Int := IntKind.u64.wrap (a + IntKind.u64.wrap n)
theorem of32 (a : Int) (w : World) : Calls Try.prog 34 #[.int .u64 a] w fun e w' => e = .returned (.int .u32 (a % 4294967296)) ∧ w = w' := by
  go_enter Try.func34, Try.ntmps34
  go_wp2
  go_ret
  exact ⟨rfl, rfl⟩
theorem add32 (a n : Int) (w : World) : Calls Try.prog 77 #[.int .u32 a, .int .i64 n] w fun e w' => e = .returned (.int .u32 (a32 a n)) ∧ w = w' := by
  go_enter Try.func77, Try.ntmps77
  go_wp2
  go_ret
  exact ⟨rfl, rfl⟩
theorem add64 (a n : Int) (w : World) : Calls Try.prog 62 #[.int .u64 a, .int .i64 n] w fun e w' => e = .returned (.int .u64 (a64 a n)) ∧ w = w' := by
  go_enter Try.func62, Try.ntmps62
  go_wp2
  go_ret
  exact ⟨rfl, rfl⟩
theorem bits32 (w : World) : Calls Try.prog 97 #[] w fun e w' => e = .returned (.int .i64 32) ∧ w = w' := by
  go_enter Try.func97, Try.ntmps97
  go_wp2
  go_ret
  exact ⟨rfl, rfl⟩
theorem bits64 (w : World) : Calls Try.prog 88 #[] w fun e w' => e = .returned (.int .i64 64) ∧ w = w' := by
  go_enter Try.func88, Try.ntmps88
  go_wp2
  go_ret
  exact ⟨rfl, rfl⟩
theorem signed32 (x : Int) (w : World) : Calls Try.prog 90 #[.int .u32 x] w fun e w' => e = .returned (.int .i64 (s32 x)) ∧ w = w' := by
  go_enter Try.func90, Try.ntmps90
  go_wp2_with (go_at_call 97; refine (bits32 _).mono ?_; rintro e w' ⟨rfl, rfl⟩)
  go_ret
  exact ⟨rfl, rfl⟩
theorem signed64 (x : Int) (w : World) : Calls Try.prog 64 #[.int .u64 x] w fun e w' => e = .returned (.int .i64 (wrap64 x)) ∧ w = w' := by
  go_enter Try.func64, Try.ntmps64
  go_wp2_with (go_at_call 88; refine (bits64 _).mono ?_; rintro e w' ⟨rfl, rfl⟩)
  go_ret
  exact ⟨rfl, rfl⟩
theorem diff32 (a b : Int) (w : World) : Calls Try.prog 81 #[.int .u32 a, .int .u32 b] w fun e w' => e = .returned (.int .i64 (d32 a b)) ∧ w = w' := by
  go_enter Try.func81, Try.ntmps81
  go_wp2_with (go_at_call 90; refine (signed32 _ _).mono ?_; rintro e w' ⟨rfl, rfl⟩)
  go_ret
  exact ⟨rfl, rfl⟩
theorem diff64 (a b : Int) (w : World) : Calls Try.prog 30 #[.int .u64 a, .int .u64 b] w fun e w' => e = .returned (.int .i64 (d64 a b)) ∧ w = w' := by
  go_enter Try.func30, Try.ntmps30
  go_wp2_with (go_at_call 64; refine (signed64 _ _).mono ?_; rintro e w' ⟨rfl, rfl⟩)
  go_ret
  exact ⟨rfl, rfl⟩
theorem less64 (a b : Int) (w : World) : Calls Try.prog 28 #[.int .u64 a, .int .u64 b] w fun e w' => e = .returned (.bool (decide (d64 a b < 0))) ∧ w = w' := by
  go_enter Try.func28, Try.ntmps28
  go_wp2_with (go_at_call 30; refine (diff64 _ _ _).mono ?_; rintro e w' ⟨rfl, rfl⟩)
  go_ret
  exact ⟨rfl, rfl⟩
/-! ### A handle's cells -/
structure HS where
  cap : Int
  pr : Bool
  held : Bool
  fr : Int
  n : Int
  gate : Int
  upto : Int
def cells (k : IntKind) (s : HS) : Array Value := #[.int .i64 s.cap, .bool s.pr, .bool s.held, .int k s.fr, .int .i64 s.n, .int k s.gate, .int k s.upto]
def Stands (k : IntKind) (t : TypeId) (w : World) (g : Nat) (s : HS) : Prop := w.heap[g]? = some (.cells (cells k s) t (0, 0))
def sizeE (cap n : Int) : Int := if n < 1 ∨ cap < n then 13 else 0
theorem below_alloc_ (w : World) (o : Obj) : Below w.heap.size w (w.alloc o) := (Below.refl w.heap.size w).alloc (Nat.le_refl _) o
theorem Stands.lt {k : IntKind} {t : TypeId} {w : World} {g : Nat} {s : HS} (h : Stands k t w g s) : g < w.heap.size := by
  unfold Stands at h
  rw [Array.getElem?_eq_some_iff] at h
  exact h.1
theorem alloc_cell (w : World) (o : Obj) (a : Addr) (h : a.block < w.heap.size) : (w.alloc o).cell? a = w.cell? a := by
  have e : (w.alloc o).heap[a.block]? = w.heap[a.block]? := (below_alloc_ w o).block a.block h
  simp only [World.cell?, e]
theorem alloc_frozen (w : World) (o : Obj) (a : Addr) (h : a.block < w.heap.size) : (w.alloc o).frozen? a = w.frozen? a := by
  have e : (w.alloc o).heap[a.block]? = w.heap[a.block]? := (below_alloc_ w o).block a.block h
  simp only [World.frozen?, e]
/-- Of what there was, only block g may have turned. -/
structure Only (g : Nat) (w w' : World) : Prop where
  os : w'.os = w.os
  tape : w'.tape = w.tape
  output : w'.output = w.output
  size : w.heap.size ≤ w'.heap.size
  block : ∀ i, i < w.heap.size → i ≠ g → w'.heap[i]? = w.heap[i]?
theorem Only.refl (g : Nat) (w : World) : Only g w w := ⟨rfl, rfl, rfl, Nat.le_refl _, fun _ _ _ => rfl⟩
theorem Only.set {g : Nat} {w w1 : World} (h : Only g w w1) (j : Nat) (u : Value) : Only g w (w1.setCell ⟨g, j, none⟩ u) :=
  ⟨h.os, h.tape, h.output, by simpa [World.setCell] using h.size, fun i hi hg => (Below.heap_setCell w1 ⟨g, j, none⟩ u i hg).trans (h.block i hi hg)⟩
theorem Only.drewN {g : Nat} {w w1 : World} (h : Only g w w1) (m : Nat) : Only g w (w1.drewN m) := ⟨h.os, h.tape, h.output, h.size, h.block⟩
theorem Only.drew {g : Nat} {w w1 : World} (h : Only g w w1) : Only g w w1.drew := ⟨h.os, h.tape, h.output, h.size, h.block⟩
theorem Only.below {g B : Nat} {w w' : World} (h : Only g w w') (hg : B ≤ g) (hB : B ≤ w.heap.size) : Below B w w' := ⟨h.os, h.tape, h.output, h.size, fun k hk => h.block k (by omega) (by omega)⟩
theorem Only.of_below {g : Nat} {w w' : World} (h : Below w.heap.size w w') : Only g w w' := ⟨h.os, h.tape, h.output, h.size, fun k hk _ => h.block k hk⟩
theorem Only.trans {g : Nat} {a b c : World} (h : Only g a b) (k : Only g b c) : Only g a c := ⟨k.os.trans h.os, k.tape.trans h.tape, k.output.trans h.output, Nat.le_trans h.size k.size, fun i hi hg => (k.block i (Nat.lt_of_lt_of_le hi h.size) hg).trans (h.block i hi hg)⟩
theorem Only.stands {g g' : Nat} {k : IntKind} {t : TypeId} {w w' : World} {s : HS} (h : Only g w w') (hs : Stands k t w g' s) (hne : g' ≠ g) : Stands k t w' g' s := (h.block g' (Stands.lt hs) hne).trans hs
theorem Stands.old {g : Nat} {k : IntKind} {t : TypeId} {w w' : World} {s : HS} (hs : Stands k t w g s) (h : Below w.heap.size w w') : Stands k t w' g s := (h.block g (Stands.lt hs)).trans hs
theorem below_drewN_ (w : World) (m : Nat) : Below w.heap.size w (w.drewN m) := ⟨rfl, rfl, rfl, Nat.le_refl _, fun _ _ => rfl⟩
theorem heap_set {w : World} {g : Nat} {cs : Array Value} {t : TypeId} {fr : Nat × Nat} (h : w.heap[g]? = some (.cells cs t fr)) (j : Nat) (v : Value) : (w.setCell ⟨g, j, none⟩ v).heap[g]? = some (.cells (cs.setIfInBounds j v) t fr) := by
  simp only [World.setCell, Array.getElem?_modify, if_true, h]
  rfl
abbrev Dr (w w' : World) : Prop := ∃ m, w' = w.drewN m
def publishedF (s : HS) : HS × Bool := if s.held = true then ({ s with held := false, fr := 0, n := 0 }, true) else (s, false)
def claimedF (fr n : Int) (s : HS) : HS × Bool := if s.pr = true ∧ s.held = false ∧ sizeE s.cap n = 0 then ({ s with held := true, fr := fr, n := n }, true) else (s, false)
theorem Stands.cells {k : IntKind} {t : TypeId} {w : World} {g : Nat} {s : HS} (h : Stands k t w g s) : w.cell? ⟨g, 0, none⟩ = some (.int .i64 s.cap) ∧ w.cell? ⟨g, 1, none⟩ = some (.bool s.pr) ∧ w.cell? ⟨g, 2, none⟩ = some (.bool s.held) ∧ w.cell? ⟨g, 3, none⟩ = some (.int k s.fr) ∧ w.cell? ⟨g, 4, none⟩ = some (.int .i64 s.n) ∧ w.cell? ⟨g, 5, none⟩ = some (.int k s.gate) ∧ w.cell? ⟨g, 6, none⟩ = some (.int k s.upto) := by
  have hg : w.heap[g]? = some (.cells (Handle.cells k s) t (0, 0)) := h
  refine ⟨?_, ?_, ?_, ?_, ?_, ?_, ?_⟩ <;> simp [World.cell?, hg, Handle.cells]
theorem Stands.frozen {k : IntKind} {t : TypeId} {w : World} {g : Nat} {s : HS} (h : Stands k t w g s) (i : Nat) : w.frozen? ⟨g, i, none⟩ = false := by
  have hg : w.heap[g]? = some (.cells (Handle.cells k s) t (0, 0)) := h
  simp [World.frozen?, hg]
theorem _root_.Go.RowKit.Below.drewN_ {B : Nat} {w w' : World} (h : Below B w w') (m : Nat) : Below B w (w'.drewN m) := ⟨h.os, h.tape, h.output, h.size, h.block⟩
theorem Stands.drew {k : IntKind} {t : TypeId} {w : World} {g : Nat} {s : HS} (h : Stands k t w g s) : Stands k t w.drew g s := h
theorem Stands.drewN {k : IntKind} {t : TypeId} {w : World} {g : Nat} {s : HS} (h : Stands k t w g s) (m : Nat) : Stands k t (w.drewN m) g s := h
theorem Stands.put {k : IntKind} {t : TypeId} {w : World} {g : Nat} {s s' : HS} (h : Stands k t w g s) (i : Nat) (u : Value) (e : (Handle.cells k s).setIfInBounds i u = Handle.cells k s') : Stands k t (w.setCell ⟨g, i, none⟩ u) g s' := blk_put h i u e
theorem fresh_cell (w : World) (cs : Array Value) (t : TypeId) (i : Nat) (v : Value) (h : cs[i]? = some v) : (w.alloc (.cells cs t)).cell? ⟨w.heap.size, i, none⟩ = some v := by
  have e := heap_alloc_new w (.cells cs t)
  simp only [World.cell?, e, h]
  rfl
theorem gate32 (g : Nat) (s : HS) (w : World) (hs : Stands .u32 91 w g s) : Calls Try.prog 45 #[.pointer (some ⟨g, 0, none⟩)] w fun e w' => e = .returned (.int .u32 s.gate) ∧ w' = w := by
  have hg : w.heap[g]? = some (.cells (cells .u32 s) 91 (0, 0)) := hs
  have hc0 : w.cell? ⟨g, 0, none⟩ = some (.int .i64 s.cap) := by simp [World.cell?, hg, cells]
  have hc1 : w.cell? ⟨g, 1, none⟩ = some (.bool s.pr) := by simp [World.cell?, hg, cells]
  have hc2 : w.cell? ⟨g, 2, none⟩ = some (.bool s.held) := by simp [World.cell?, hg, cells]
  have hc3 : w.cell? ⟨g, 3, none⟩ = some (.int .u32 s.fr) := by simp [World.cell?, hg, cells]
  have hc4 : w.cell? ⟨g, 4, none⟩ = some (.int .i64 s.n) := by simp [World.cell?, hg, cells]
  have hc5 : w.cell? ⟨g, 5, none⟩ = some (.int .u32 s.gate) := by simp [World.cell?, hg, cells]
  have hc6 : w.cell? ⟨g, 6, none⟩ = some (.int .u32 s.upto) := by simp [World.cell?, hg, cells]
  clear hg
  go_enter Try.func45, Try.ntmps45
  go_wp2
  go_ret
  exact ⟨rfl, rfl⟩
theorem gate32_nil (w : World) : Calls Try.prog 45 #[.pointer none] w fun e w' => e = .returned (.int .u32 0) ∧ Dr w w' := by
  go_enter Try.func45, Try.ntmps45
  go_wp2
  go_ret
  exact ⟨rfl, 0, rfl⟩
theorem upto32 (g : Nat) (s : HS) (w : World) (hs : Stands .u32 91 w g s) : Calls Try.prog 80 #[.pointer (some ⟨g, 0, none⟩)] w fun e w' => e = .returned (.int .u32 s.upto) ∧ w' = w := by
  have hg : w.heap[g]? = some (.cells (cells .u32 s) 91 (0, 0)) := hs
  have hc0 : w.cell? ⟨g, 0, none⟩ = some (.int .i64 s.cap) := by simp [World.cell?, hg, cells]
  have hc1 : w.cell? ⟨g, 1, none⟩ = some (.bool s.pr) := by simp [World.cell?, hg, cells]
  have hc2 : w.cell? ⟨g, 2, none⟩ = some (.bool s.held) := by simp [World.cell?, hg, cells]
  have hc3 : w.cell? ⟨g, 3, none⟩ = some (.int .u32 s.fr) := by simp [World.cell?, hg, cells]
  have hc4 : w.cell? ⟨g, 4, none⟩ = some (.int .i64 s.n) := by simp [World.cell?, hg, cells]
  have hc5 : w.cell? ⟨g, 5, none⟩ = some (.int .u32 s.gate) := by simp [World.cell?, hg, cells]
  have hc6 : w.cell? ⟨g, 6, none⟩ = some (.int .u32 s.upto) := by simp [World.cell?, hg, cells]
  clear hg
  go_enter Try.func80, Try.ntmps80
  go_wp2
  go_ret
  exact ⟨rfl, rfl⟩
theorem upto32_nil (w : World) : Calls Try.prog 80 #[.pointer none] w fun e w' => e = .returned (.int .u32 0) ∧ Dr w w' := by
  go_enter Try.func80, Try.ntmps80
  go_wp2
  go_ret
  exact ⟨rfl, 0, rfl⟩
theorem ready32 (g : Nat) (s : HS) (w : World) (hs : Stands .u32 91 w g s) : Calls Try.prog 46 #[.pointer (some ⟨g, 0, none⟩)] w fun e w' => e = .returned (.int .i64 (d32 s.upto s.gate)) ∧ Dr w w' := by
  have hg : w.heap[g]? = some (.cells (cells .u32 s) 91 (0, 0)) := hs
  have hc0 : w.cell? ⟨g, 0, none⟩ = some (.int .i64 s.cap) := by simp [World.cell?, hg, cells]
  have hc1 : w.cell? ⟨g, 1, none⟩ = some (.bool s.pr) := by simp [World.cell?, hg, cells]
  have hc2 : w.cell? ⟨g, 2, none⟩ = some (.bool s.held) := by simp [World.cell?, hg, cells]
  have hc3 : w.cell? ⟨g, 3, none⟩ = some (.int .u32 s.fr) := by simp [World.cell?, hg, cells]
  have hc4 : w.cell? ⟨g, 4, none⟩ = some (.int .i64 s.n) := by simp [World.cell?, hg, cells]
  have hc5 : w.cell? ⟨g, 5, none⟩ = some (.int .u32 s.gate) := by simp [World.cell?, hg, cells]
  have hc6 : w.cell? ⟨g, 6, none⟩ = some (.int .u32 s.upto) := by simp [World.cell?, hg, cells]
  clear hg
  go_enter Try.func46, Try.ntmps46
  go_wp2_with (fail)
  go_quiet ((go_at_call 81; refine (diff32 _ _ _).mono ?_; rintro e w' ⟨rfl, rfl⟩; exact ⟨rfl, _, rfl⟩))
  go_wp2
  go_ret
  exact ⟨rfl, _, rfl⟩
theorem ready32_nil (w : World) : Calls Try.prog 46 #[.pointer none] w fun e w' => e = .returned (.int .i64 0) ∧ Dr w w' := by
  go_enter Try.func46, Try.ntmps46
  go_wp2
  go_ret
  exact ⟨rfl, 0, rfl⟩
theorem size32 (g : Nat) (s : HS) (n : Int) (w : World) (hs : Stands .u32 91 w g s) : Calls Try.prog 68 #[.pointer (some ⟨g, 0, none⟩), .int .i64 n] w fun e w' => e = .returned (.int .i64 (sizeE s.cap n)) ∧ Dr w w' := by
  have hg : w.heap[g]? = some (.cells (cells .u32 s) 91 (0, 0)) := hs
  have hc0 : w.cell? ⟨g, 0, none⟩ = some (.int .i64 s.cap) := by simp [World.cell?, hg, cells]
  have hc1 : w.cell? ⟨g, 1, none⟩ = some (.bool s.pr) := by simp [World.cell?, hg, cells]
  have hc2 : w.cell? ⟨g, 2, none⟩ = some (.bool s.held) := by simp [World.cell?, hg, cells]
  have hc3 : w.cell? ⟨g, 3, none⟩ = some (.int .u32 s.fr) := by simp [World.cell?, hg, cells]
  have hc4 : w.cell? ⟨g, 4, none⟩ = some (.int .i64 s.n) := by simp [World.cell?, hg, cells]
  have hc5 : w.cell? ⟨g, 5, none⟩ = some (.int .u32 s.gate) := by simp [World.cell?, hg, cells]
  have hc6 : w.cell? ⟨g, 6, none⟩ = some (.int .u32 s.upto) := by simp [World.cell?, hg, cells]
  clear hg
  unfold sizeE
  by_cases c1 : n < 1
  · have t1 : decide (n < 1) = true := decide_eq_true c1
    rw [if_pos (.inl c1)]
    go_enter Try.func68, Try.ntmps68
    go_wp2
    go_ret
    exact ⟨rfl, 0, rfl⟩
  · have t1 : decide (n < 1) = false := decide_eq_false c1
    by_cases c2 : s.cap < n
    · have t2 : decide (s.cap < n) = true := decide_eq_true c2
      rw [if_pos (.inr c2)]
      go_enter Try.func68, Try.ntmps68
      go_wp2
      go_ret
      exact ⟨rfl, 0, rfl⟩
    · have t2 : decide (s.cap < n) = false := decide_eq_false c2
      rw [if_neg (by omega)]
      go_enter Try.func68, Try.ntmps68
      go_wp2
      go_ret
      exact ⟨rfl, 0, rfl⟩
theorem span32 (g : Nat) (s : HS) (w : World) (hs : Stands .u32 91 w g s) : Calls Try.prog 44 #[.pointer (some ⟨g, 0, none⟩)] w fun e w' => e = .returned (.tuple #[.agg #[.int .u32 s.fr, .int .i64 s.n], .bool s.held]) ∧ Below w.heap.size w w' := by
  have hg : w.heap[g]? = some (.cells (cells .u32 s) 91 (0, 0)) := hs
  have hc0 : w.cell? ⟨g, 0, none⟩ = some (.int .i64 s.cap) := by simp [World.cell?, hg, cells]
  have hc1 : w.cell? ⟨g, 1, none⟩ = some (.bool s.pr) := by simp [World.cell?, hg, cells]
  have hc2 : w.cell? ⟨g, 2, none⟩ = some (.bool s.held) := by simp [World.cell?, hg, cells]
  have hc3 : w.cell? ⟨g, 3, none⟩ = some (.int .u32 s.fr) := by simp [World.cell?, hg, cells]
  have hc4 : w.cell? ⟨g, 4, none⟩ = some (.int .i64 s.n) := by simp [World.cell?, hg, cells]
  have hc5 : w.cell? ⟨g, 5, none⟩ = some (.int .u32 s.gate) := by simp [World.cell?, hg, cells]
  have hc6 : w.cell? ⟨g, 6, none⟩ = some (.int .u32 s.upto) := by simp [World.cell?, hg, cells]
  clear hg
  have hu := Try.underlying69
  have hlt : g < w.heap.size := Stands.lt hs
  have ha0 := (alloc_cell w (Obj.cells #[.int .u32 0, .int .i64 0] 69) ⟨g, 0, none⟩ hlt).trans hc0
  have ha1 := (alloc_cell w (Obj.cells #[.int .u32 0, .int .i64 0] 69) ⟨g, 1, none⟩ hlt).trans hc1
  have ha2 := (alloc_cell w (Obj.cells #[.int .u32 0, .int .i64 0] 69) ⟨g, 2, none⟩ hlt).trans hc2
  have ha3 := (alloc_cell w (Obj.cells #[.int .u32 0, .int .i64 0] 69) ⟨g, 3, none⟩ hlt).trans hc3
  have ha4 := (alloc_cell w (Obj.cells #[.int .u32 0, .int .i64 0] 69) ⟨g, 4, none⟩ hlt).trans hc4
  have ha5 := (alloc_cell w (Obj.cells #[.int .u32 0, .int .i64 0] 69) ⟨g, 5, none⟩ hlt).trans hc5
  have ha6 := (alloc_cell w (Obj.cells #[.int .u32 0, .int .i64 0] 69) ⟨g, 6, none⟩ hlt).trans hc6
  go_enter Try.func44, Try.ntmps44
  go_wp2_with (fail)
  go_region
  go_wp2
  refine bodyPost_ret (results_ct rfl _ _ w.heap.size 69 #[.int .u32 s.fr, .int .i64 s.n] (0, 0) _ rfl (heap_alloc_new w _) Try.underlying69 rfl (by kernel_rfl)) rfl ?_
  exact ⟨rfl, (below_alloc_ w _).drew⟩
theorem span32_nil (w : World) : Calls Try.prog 44 #[.pointer none] w fun e w' => e = .returned (.tuple #[.agg #[.int .u32 0, .int .i64 0], .bool false]) ∧ Below w.heap.size w w' := by
  have hu := Try.underlying69
  go_enter Try.func44, Try.ntmps44
  go_wp2
  refine bodyPost_ret (results_ct rfl _ _ w.heap.size 69 #[.int .u32 0, .int .i64 0] (0, 0) _ rfl (heap_alloc_new w _) Try.underlying69 rfl (by kernel_rfl)) rfl ?_
  exact ⟨rfl, (below_alloc_ w _)⟩
theorem published32 (g : Nat) (s : HS) (w : World) (hs : Stands .u32 91 w g s) : Calls Try.prog 76 #[.pointer (some ⟨g, 0, none⟩)] w fun e w' => e = .returned (.bool (publishedF s).2) ∧ Stands .u32 91 w' g (publishedF s).1 ∧ Only g w w' := by
  have hg : w.heap[g]? = some (.cells (cells .u32 s) 91 (0, 0)) := hs
  have hc0 : w.cell? ⟨g, 0, none⟩ = some (.int .i64 s.cap) := by simp [World.cell?, hg, cells]
  have hc1 : w.cell? ⟨g, 1, none⟩ = some (.bool s.pr) := by simp [World.cell?, hg, cells]
  have hc2 : w.cell? ⟨g, 2, none⟩ = some (.bool s.held) := by simp [World.cell?, hg, cells]
  have hc3 : w.cell? ⟨g, 3, none⟩ = some (.int .u32 s.fr) := by simp [World.cell?, hg, cells]
  have hc4 : w.cell? ⟨g, 4, none⟩ = some (.int .i64 s.n) := by simp [World.cell?, hg, cells]
  have hc5 : w.cell? ⟨g, 5, none⟩ = some (.int .u32 s.gate) := by simp [World.cell?, hg, cells]
  have hc6 : w.cell? ⟨g, 6, none⟩ = some (.int .u32 s.upto) := by simp [World.cell?, hg, cells]
  clear hg
  have hf0 : w.frozen? ⟨g, 0, none⟩ = false := by simp [World.frozen?, show w.heap[g]? = some (.cells (cells .u32 s) 91 (0, 0)) from hs]
  have hf1 : w.frozen? ⟨g, 1, none⟩ = false := by simp [World.frozen?, show w.heap[g]? = some (.cells (cells .u32 s) 91 (0, 0)) from hs]
  have hf2 : w.frozen? ⟨g, 2, none⟩ = false := by simp [World.frozen?, show w.heap[g]? = some (.cells (cells .u32 s) 91 (0, 0)) from hs]
  have hf3 : w.frozen? ⟨g, 3, none⟩ = false := by simp [World.frozen?, show w.heap[g]? = some (.cells (cells .u32 s) 91 (0, 0)) from hs]
  have hf4 : w.frozen? ⟨g, 4, none⟩ = false := by simp [World.frozen?, show w.heap[g]? = some (.cells (cells .u32 s) 91 (0, 0)) from hs]
  have hf5 : w.frozen? ⟨g, 5, none⟩ = false := by simp [World.frozen?, show w.heap[g]? = some (.cells (cells .u32 s) 91 (0, 0)) from hs]
  have hf6 : w.frozen? ⟨g, 6, none⟩ = false := by simp [World.frozen?, show w.heap[g]? = some (.cells (cells .u32 s) 91 (0, 0)) from hs]
  have hu := Try.underlying69
  cases hh : s.held with
  | false =>
    rw [hh] at hc2
    have e1 : publishedF s = (s, false) := by simp [publishedF, hh]
    rw [e1]
    go_enter Try.func76, Try.ntmps76
    go_wp2
    go_ret
    exact ⟨rfl, hs, Only.refl _ _⟩
  | true =>
    rw [hh] at hc2
    have e1 : publishedF s = ({ s with held := false, fr := 0, n := 0 }, true) := by simp [publishedF, hh]
    rw [e1]
    go_enter Try.func76, Try.ntmps76
    go_wp2
    go_ret
    refine ⟨rfl, ?_, ?_⟩
    · exact blk_put (blk_put (blk_put (show w.heap[g]? = some (.cells (cells .u32 s) 91 (0, 0)) from hs) 2 _ rfl) 3 _ rfl) 4 _ rfl
    · exact by repeat (first | exact Only.refl _ _ | apply Only.drew | apply Only.drewN | apply Only.set)
theorem claimed32 (g : Nat) (s : HS) (fr n : Int) (w : World) (hs : Stands .u32 91 w g s) : Calls Try.prog 75 #[.pointer (some ⟨g, 0, none⟩), .agg #[.int .u32 fr, .int .i64 n]] w fun e w' => e = .returned (.bool (claimedF fr n s).2) ∧ Stands .u32 91 w' g (claimedF fr n s).1 ∧ Only g w w' := by
  have hu := Try.underlying69
  have hlt := hs.lt
  have hS := fun o => hs.old (below_alloc_ w o)
  have hO := fun o => Only.of_below (g := g) (below_alloc_ w o)
  have hc0 := fun o => (hS o).cells.1
  have hc1 := fun o => (hS o).cells.2.1
  have hc2 := fun o => (hS o).cells.2.2.1
  cases hp : s.pr with
  | false =>
    rw [hp] at hc1
    have e1 : claimedF fr n s = (s, false) := by simp [claimedF, hp]
    rw [e1]
    clear e1
    go_enter Try.func75, Try.ntmps75
    go_wp2
    go_ret
    exact ⟨rfl, hS _, hO _⟩
  | true =>
    rw [hp] at hc1
    cases hh : s.held with
    | true =>
      rw [hh] at hc2
      have e1 : claimedF fr n s = (s, false) := by simp [claimedF, hh]
      rw [e1]
      clear e1
      go_enter Try.func75, Try.ntmps75
      go_wp2
      go_ret
      exact ⟨rfl, hS _, hO _⟩
    | false =>
      rw [hh] at hc2
      by_cases c : sizeE s.cap n = 0
      · have e1 : claimedF fr n s = ({ s with held := true, fr := fr, n := n }, true) := by simp [claimedF, hp, hh, c]
        rw [e1]
        clear e1
        go_enter Try.func75, Try.ntmps75
        go_wp2_with (go_at_call 68; refine (size32 g s _ _ (hS _)).mono ?_; rintro e w' ⟨rfl, mq, rfl⟩)
        clear hc0 hc1 hc2
        have hz : w.heap.size ≠ g := by omega
        have hz' : g ≠ w.heap.size := by omega
        have hn0 : (w.alloc (.cells #[.int .u32 fr, .int .i64 n] 69)).cell? ⟨w.heap.size, 0, none⟩ = some (.int .u32 fr) := fresh_cell w _ _ _ _ rfl
        have hn1 : (w.alloc (.cells #[.int .u32 fr, .int .i64 n] 69)).cell? ⟨w.heap.size, 1, none⟩ = some (.int .i64 n) := fresh_cell w _ _ _ _ rfl
        have hS1 := hS (.cells #[.int .u32 fr, .int .i64 n] 69)
        have hO1 := hO (.cells #[.int .u32 fr, .int .i64 n] 69)
        clear hS hO
        generalize (w.alloc (.cells #[.int .u32 fr, .int .i64 n] 69)) = w1 at *
        obtain ⟨w2, hq⟩ : ∃ w2, w2 = w1.drewN mq := ⟨_, rfl⟩
        have hO2 : Only g w w2 := by rw [hq]; exact hO1.drewN _
        have hS2 : Stands .u32 91 w2 g s := by rw [hq]; exact hS1
        replace hn0 : w2.cell? ⟨w.heap.size, 0, none⟩ = some (.int .u32 fr) := by rw [hq]; exact hn0
        replace hn1 : w2.cell? ⟨w.heap.size, 1, none⟩ = some (.int .i64 n) := by rw [hq]; exact hn1
        rw [← hq]
        clear hq hO1 hS1
        generalize w.heap.size = z at *
        have ha2 := hS2.cells.2.2.1
        have ha3 := hS2.cells.2.2.2.1
        have ha4 := hS2.cells.2.2.2.2.1
        have hb2 := hS2.frozen 2
        have hb3 := hS2.frozen 3
        have hb4 := hS2.frozen 4
        go_region
        go_wp2
        go_ret
        exact ⟨rfl, ((hS2.put (s' := { s with held := true }) 2 _ rfl).put (s' := { s with held := true, fr := fr }) 3 _ rfl).put (s' := { s with held := true, fr := fr, n := n }) 4 _ rfl, by repeat (first | exact hO2 | apply Only.drew | apply Only.drewN | apply Only.set)⟩
      · have e1 : claimedF fr n s = (s, false) := by simp [claimedF, c]
        have t1 : (sizeE s.cap n == 0) = false := by simpa using c
        rw [e1]
        clear e1
        go_enter Try.func75, Try.ntmps75
        go_wp2_with (go_at_call 68; refine (size32 g s _ _ (hS _)).mono ?_; rintro e w' ⟨rfl, mq, rfl⟩)
        go_ret
        exact ⟨rfl, (hS _).drewN _, (hO _).drewN _⟩
def saw32F (u : Int) (s : HS) : HS × Bool := if s.pr = false ∧ d32 s.upto s.gate ≤ d32 u s.gate ∧ d32 u s.gate ≤ s.cap then ({ s with upto := u }, true) else (s, false)
def released32F (n : Int) (s : HS) : HS × Bool := if 1 ≤ n ∧ n ≤ d32 s.upto s.gate then ({ s with gate := a32 s.gate n }, true) else (s, false)
theorem saw32 (g : Nat) (s : HS) (u : Int) (w : World) (hs : Stands .u32 91 w g s) : Calls Try.prog 57 #[.pointer (some ⟨g, 0, none⟩), .int .u32 u] w fun e w' => e = .returned (.bool (saw32F u s).2) ∧ Stands .u32 91 w' g (saw32F u s).1 ∧ Only g w w' := by
  have hc0 := hs.cells.1
  have hc1 := hs.cells.2.1
  have hc5 := hs.cells.2.2.2.2.2.1
  have hc6 := hs.cells.2.2.2.2.2.2
  have hf6 := hs.frozen 6
  cases hp : s.pr with
  | true =>
    rw [hp] at hc1
    have e1 : saw32F u s = (s, false) := by simp [saw32F, hp]
    rw [e1]
    clear e1
    go_enter Try.func57, Try.ntmps57
    go_wp2
    go_ret
    exact ⟨rfl, hs, Only.refl _ _⟩
  | false =>
    rw [hp] at hc1
    by_cases c1 : d32 u s.gate < d32 s.upto s.gate
    · have e1 : saw32F u s = (s, false) := by unfold saw32F; rw [if_neg (by omega)]
      have t1 : decide (d32 u s.gate < d32 s.upto s.gate) = true := decide_eq_true c1
      rw [e1]
      clear e1
      go_enter Try.func57, Try.ntmps57
      go_wp2_with (first | (go_at_call 81; refine (diff32 _ _ _).mono ?_; rintro e w' ⟨rfl, rfl⟩) | (go_at_call 46; refine (ready32 g s _ hs).mono ?_; rintro e w' ⟨rfl, mq, rfl⟩))
      go_ret
      exact ⟨rfl, hs.drewN _, (Only.refl _ _).drewN _⟩
    · have t1 : decide (d32 u s.gate < d32 s.upto s.gate) = false := decide_eq_false c1
      by_cases c2 : s.cap < d32 u s.gate
      · have e1 : saw32F u s = (s, false) := by unfold saw32F; rw [if_neg (by omega)]
        have t2 : decide (s.cap < d32 u s.gate) = true := decide_eq_true c2
        rw [e1]
        clear e1
        go_enter Try.func57, Try.ntmps57
        go_wp2_with (first | (go_at_call 81; refine (diff32 _ _ _).mono ?_; rintro e w' ⟨rfl, rfl⟩) | (go_at_call 46; refine (ready32 g s _ hs).mono ?_; rintro e w' ⟨rfl, mq, rfl⟩))
        go_ret
        exact ⟨rfl, hs.drewN _, (Only.refl _ _).drewN _⟩
      · have e1 : saw32F u s = ({ s with upto := u }, true) := by unfold saw32F; rw [if_pos ⟨hp, by omega, by omega⟩]
        have t2 : decide (s.cap < d32 u s.gate) = false := decide_eq_false c2
        rw [e1]
        clear e1
        go_enter Try.func57, Try.ntmps57
        go_wp2_with (first | (go_at_call 81; refine (diff32 _ _ _).mono ?_; rintro e w' ⟨rfl, rfl⟩) | (go_at_call 46; refine (ready32 g s _ hs).mono ?_; rintro e w' ⟨rfl, mq, rfl⟩))
        go_ret
        exact ⟨rfl, (hs.drewN _).put (s' := { s with upto := u }) 6 _ rfl, by repeat (first | exact Only.refl _ _ | apply Only.drew | apply Only.drewN | apply Only.set)⟩
theorem released32 (g : Nat) (s : HS) (n : Int) (w : World) (hs : Stands .u32 91 w g s) : Calls Try.prog 58 #[.pointer (some ⟨g, 0, none⟩), .int .i64 n] w fun e w' => e = .returned (.bool (released32F n s).2) ∧ Stands .u32 91 w' g (released32F n s).1 ∧ Only g w w' := by
  have hc5 := hs.cells.2.2.2.2.2.1
  have hf5 := hs.frozen 5
  by_cases c1 : n < 1
  · have e1 : released32F n s = (s, false) := by unfold released32F; rw [if_neg (by omega)]
    have t1 : decide (n < 1) = true := decide_eq_true c1
    rw [e1]
    clear e1
    go_enter Try.func58, Try.ntmps58
    go_wp2
    go_ret
    exact ⟨rfl, hs, Only.refl _ _⟩
  · have t1 : decide (n < 1) = false := decide_eq_false c1
    by_cases c2 : d32 s.upto s.gate < n
    · have e1 : released32F n s = (s, false) := by unfold released32F; rw [if_neg (by omega)]
      have t2 : decide (d32 s.upto s.gate < n) = true := decide_eq_true c2
      rw [e1]
      clear e1
      go_enter Try.func58, Try.ntmps58
      go_wp2_with (go_at_call 46; refine (ready32 g s _ hs).mono ?_; rintro e w' ⟨rfl, mq, rfl⟩)
      go_ret
      exact ⟨rfl, hs.drewN _, (Only.refl _ _).drewN _⟩
    · have e1 : released32F n s = ({ s with gate := a32 s.gate n }, true) := by unfold released32F; rw [if_pos ⟨by omega, by omega⟩]
      have t2 : decide (d32 s.upto s.gate < n) = false := decide_eq_false c2
      rw [e1]
      clear e1
      go_enter Try.func58, Try.ntmps58
      go_wp2_with (first | (go_at_call 77; refine (add32 _ _ _).mono ?_; rintro e w' ⟨rfl, rfl⟩) | (go_at_call 46; refine (ready32 g s _ hs).mono ?_; rintro e w' ⟨rfl, mq, rfl⟩))
      go_ret
      exact ⟨rfl, (hs.drewN _).put (s' := { s with gate := a32 s.gate n }) 5 _ rfl, by repeat (first | exact Only.refl _ _ | apply Only.drew | apply Only.drewN | apply Only.set)⟩
def free32E (s : HS) (n : Int) : Int := if sizeE s.cap n = 0 then (if s.held = true then 14 else 0) else sizeE s.cap n
theorem free32 (g : Nat) (s : HS) (n : Int) (w : World) (hs : Stands .u32 91 w g s) : Calls Try.prog 67 #[.pointer (some ⟨g, 0, none⟩), .int .i64 n] w fun e w' => e = .returned (.int .i64 (free32E s n)) ∧ Dr w w' := by
  have hc2 := hs.cells.2.2.1
  unfold free32E
  by_cases c : sizeE s.cap n = 0
  · rw [if_pos c]
    cases hh : s.held with
    | true =>
      rw [hh] at hc2
      rw [if_pos rfl]
      go_enter Try.func67, Try.ntmps67
      go_wp2_with (go_at_call 68; refine (size32 g s _ _ hs).mono ?_; rintro e w' ⟨rfl, mq, rfl⟩)
      go_ret
      exact ⟨rfl, _, rfl⟩
    | false =>
      rw [hh] at hc2
      rw [if_neg (by decide)]
      go_enter Try.func67, Try.ntmps67
      go_wp2_with (go_at_call 68; refine (size32 g s _ _ hs).mono ?_; rintro e w' ⟨rfl, mq, rfl⟩)
      go_ret
      exact ⟨rfl, _, rfl⟩
  · have t1 : (sizeE s.cap n == 0) = false := by simpa using c
    rw [if_neg c]
    go_enter Try.func67, Try.ntmps67
    go_wp2_with (go_at_call 68; refine (size32 g s _ _ hs).mono ?_; rintro e w' ⟨rfl, mq, rfl⟩)
    go_ret
    exact ⟨rfl, _, rfl⟩
def may32E (s : HS) (op n l : Int) : Int := if (op == 1 || op == 2 || op == 5) = s.pr then (if op = 5 then free32E s l else if op = 1 then free32E s n else if op = 2 then (if s.held = true then 0 else 14) else if op = 4 then (if n < 1 ∨ d32 s.upto s.gate < n then 13 else 0) else if op = 6 then sizeE s.cap n else if op = 3 then 0 else 12) else 12
set_option maxHeartbeats 8000000 in
theorem may32 (g : Nat) (s : HS) (op n : Int) (A : Option Addr) (l C : Nat) (w : World) (hs : Stands .u32 91 w g s) : Calls Try.prog 39 #[.pointer (some ⟨g, 0, none⟩), .agg #[.int .i64 op, .int .i64 n, .slice A l C]] w fun e w' => e = .returned (.int .i64 (may32E s op n l)) ∧ Below w.heap.size w w' := by
  have hS := fun o => hs.old (below_alloc_ w o)
  have hc1 := fun o => (hS o).cells.2.1
  have hc2 := fun o => (hS o).cells.2.2.1
  by_cases o1 : op = 1
  · subst o1
    cases hp : s.pr with
    | false =>
      rw [hp] at hc1
      have e1 : may32E s 1 n l = 12 := by simp [may32E, hp]
      rw [e1]
      clear e1
      go_enter Try.func39, Try.ntmps39
      go_wp2_with (first | (go_at_call 67; refine (free32 g s _ _ (hS _)).mono ?_; rintro e w' ⟨rfl, mq, rfl⟩) | (go_at_call 68; refine (size32 g s _ _ (hS _)).mono ?_; rintro e w' ⟨rfl, mq, rfl⟩) | (go_at_call 46; refine (ready32 g s _ (hS _)).mono ?_; rintro e w' ⟨rfl, mq, rfl⟩))
      go_ret
      exact ⟨rfl, (below_alloc_ w _)⟩
    | true =>
      rw [hp] at hc1
      have e1 : may32E s 1 n l = free32E s n := by simp [may32E, hp]
      rw [e1]
      clear e1
      go_enter Try.func39, Try.ntmps39
      go_wp2_with (first | (go_at_call 67; refine (free32 g s _ _ (hS _)).mono ?_; rintro e w' ⟨rfl, mq, rfl⟩) | (go_at_call 68; refine (size32 g s _ _ (hS _)).mono ?_; rintro e w' ⟨rfl, mq, rfl⟩) | (go_at_call 46; refine (ready32 g s _ (hS _)).mono ?_; rintro e w' ⟨rfl, mq, rfl⟩))
      go_ret
      exact ⟨rfl, (below_alloc_ w _).drewN_ _⟩
  by_cases o2 : op = 2
  · subst o2
    cases hp : s.pr with
    | false =>
      rw [hp] at hc1
      have e1 : may32E s 2 n l = 12 := by simp [may32E, hp]
      rw [e1]
      clear e1
      go_enter Try.func39, Try.ntmps39
      go_wp2_with (first | (go_at_call 67; refine (free32 g s _ _ (hS _)).mono ?_; rintro e w' ⟨rfl, mq, rfl⟩) | (go_at_call 68; refine (size32 g s _ _ (hS _)).mono ?_; rintro e w' ⟨rfl, mq, rfl⟩) | (go_at_call 46; refine (ready32 g s _ (hS _)).mono ?_; rintro e w' ⟨rfl, mq, rfl⟩))
      go_ret
      exact ⟨rfl, (below_alloc_ w _)⟩
    | true =>
      rw [hp] at hc1
      cases hh : s.held with
      | false =>
        rw [hh] at hc2
        have e1 : may32E s 2 n l = 14 := by simp [may32E, hp, hh]
        rw [e1]
        clear e1
        go_enter Try.func39, Try.ntmps39
        go_wp2_with (first | (go_at_call 67; refine (free32 g s _ _ (hS _)).mono ?_; rintro e w' ⟨rfl, mq, rfl⟩) | (go_at_call 68; refine (size32 g s _ _ (hS _)).mono ?_; rintro e w' ⟨rfl, mq, rfl⟩) | (go_at_call 46; refine (ready32 g s _ (hS _)).mono ?_; rintro e w' ⟨rfl, mq, rfl⟩))
        go_ret
        exact ⟨rfl, (below_alloc_ w _)⟩
      | true =>
        rw [hh] at hc2
        have e1 : may32E s 2 n l = 0 := by simp [may32E, hp, hh]
        rw [e1]
        clear e1
        go_enter Try.func39, Try.ntmps39
        go_wp2_with (first | (go_at_call 67; refine (free32 g s _ _ (hS _)).mono ?_; rintro e w' ⟨rfl, mq, rfl⟩) | (go_at_call 68; refine (size32 g s _ _ (hS _)).mono ?_; rintro e w' ⟨rfl, mq, rfl⟩) | (go_at_call 46; refine (ready32 g s _ (hS _)).mono ?_; rintro e w' ⟨rfl, mq, rfl⟩))
        go_ret
        exact ⟨rfl, (below_alloc_ w _)⟩
  by_cases o3 : op = 3
  · subst o3
    cases hp : s.pr with
    | false =>
      rw [hp] at hc1
      have e1 : may32E s 3 n l = 0 := by simp [may32E, hp]
      rw [e1]
      clear e1
      go_enter Try.func39, Try.ntmps39
      go_wp2_with (first | (go_at_call 67; refine (free32 g s _ _ (hS _)).mono ?_; rintro e w' ⟨rfl, mq, rfl⟩) | (go_at_call 68; refine (size32 g s _ _ (hS _)).mono ?_; rintro e w' ⟨rfl, mq, rfl⟩) | (go_at_call 46; refine (ready32 g s _ (hS _)).mono ?_; rintro e w' ⟨rfl, mq, rfl⟩))
      go_ret
      exact ⟨rfl, (below_alloc_ w _)⟩
    | true =>
      rw [hp] at hc1
      have e1 : may32E s 3 n l = 12 := by simp [may32E, hp]
      rw [e1]
      clear e1
      go_enter Try.func39, Try.ntmps39
      go_wp2_with (first | (go_at_call 67; refine (free32 g s _ _ (hS _)).mono ?_; rintro e w' ⟨rfl, mq, rfl⟩) | (go_at_call 68; refine (size32 g s _ _ (hS _)).mono ?_; rintro e w' ⟨rfl, mq, rfl⟩) | (go_at_call 46; refine (ready32 g s _ (hS _)).mono ?_; rintro e w' ⟨rfl, mq, rfl⟩))
      go_ret
      exact ⟨rfl, (below_alloc_ w _)⟩
  by_cases o4 : op = 4
  · subst o4
    cases hp : s.pr with
    | false =>
      rw [hp] at hc1
      by_cases k1 : n < 1
      · have t1 : decide (n < 1) = true := decide_eq_true k1
        have e1 : may32E s 4 n l = 13 := by simp [may32E, hp, k1]
        rw [e1]
        clear e1
        go_enter Try.func39, Try.ntmps39
        go_wp2_with (first | (go_at_call 67; refine (free32 g s _ _ (hS _)).mono ?_; rintro e w' ⟨rfl, mq, rfl⟩) | (go_at_call 68; refine (size32 g s _ _ (hS _)).mono ?_; rintro e w' ⟨rfl, mq, rfl⟩) | (go_at_call 46; refine (ready32 g s _ (hS _)).mono ?_; rintro e w' ⟨rfl, mq, rfl⟩))
        go_ret
        exact ⟨rfl, (below_alloc_ w _)⟩
      · have t1 : decide (n < 1) = false := decide_eq_false k1
        by_cases k2 : d32 s.upto s.gate < n
        · have t2 : decide (d32 s.upto s.gate < n) = true := decide_eq_true k2
          have e1 : may32E s 4 n l = 13 := by simp [may32E, hp, k2]
          rw [e1]
          clear e1
          go_enter Try.func39, Try.ntmps39
          go_wp2_with (first | (go_at_call 67; refine (free32 g s _ _ (hS _)).mono ?_; rintro e w' ⟨rfl, mq, rfl⟩) | (go_at_call 68; refine (size32 g s _ _ (hS _)).mono ?_; rintro e w' ⟨rfl, mq, rfl⟩) | (go_at_call 46; refine (ready32 g s _ (hS _)).mono ?_; rintro e w' ⟨rfl, mq, rfl⟩))
          go_ret
          exact ⟨rfl, (below_alloc_ w _).drewN_ _⟩
        · have t2 : decide (d32 s.upto s.gate < n) = false := decide_eq_false k2
          have e1 : may32E s 4 n l = 0 := by simp [may32E, hp]; omega
          rw [e1]
          clear e1
          go_enter Try.func39, Try.ntmps39
          go_wp2_with (first | (go_at_call 67; refine (free32 g s _ _ (hS _)).mono ?_; rintro e w' ⟨rfl, mq, rfl⟩) | (go_at_call 68; refine (size32 g s _ _ (hS _)).mono ?_; rintro e w' ⟨rfl, mq, rfl⟩) | (go_at_call 46; refine (ready32 g s _ (hS _)).mono ?_; rintro e w' ⟨rfl, mq, rfl⟩))
          go_ret
          exact ⟨rfl, (below_alloc_ w _).drewN_ _⟩
    | true =>
      rw [hp] at hc1
      have e1 : may32E s 4 n l = 12 := by simp [may32E, hp]
      rw [e1]
      clear e1
      go_enter Try.func39, Try.ntmps39
      go_wp2_with (first | (go_at_call 67; refine (free32 g s _ _ (hS _)).mono ?_; rintro e w' ⟨rfl, mq, rfl⟩) | (go_at_call 68; refine (size32 g s _ _ (hS _)).mono ?_; rintro e w' ⟨rfl, mq, rfl⟩) | (go_at_call 46; refine (ready32 g s _ (hS _)).mono ?_; rintro e w' ⟨rfl, mq, rfl⟩))
      go_ret
      exact ⟨rfl, (below_alloc_ w _)⟩
  by_cases o5 : op = 5
  · subst o5
    cases hp : s.pr with
    | false =>
      rw [hp] at hc1
      have e1 : may32E s 5 n l = 12 := by simp [may32E, hp]
      rw [e1]
      clear e1
      go_enter Try.func39, Try.ntmps39
      go_wp2_with (first | (go_at_call 67; refine (free32 g s _ _ (hS _)).mono ?_; rintro e w' ⟨rfl, mq, rfl⟩) | (go_at_call 68; refine (size32 g s _ _ (hS _)).mono ?_; rintro e w' ⟨rfl, mq, rfl⟩) | (go_at_call 46; refine (ready32 g s _ (hS _)).mono ?_; rintro e w' ⟨rfl, mq, rfl⟩))
      go_ret
      exact ⟨rfl, (below_alloc_ w _)⟩
    | true =>
      rw [hp] at hc1
      have e1 : may32E s 5 n l = free32E s l := by simp [may32E, hp]
      rw [e1]
      clear e1
      go_enter Try.func39, Try.ntmps39
      go_wp2_with (first | (go_at_call 67; refine (free32 g s _ _ (hS _)).mono ?_; rintro e w' ⟨rfl, mq, rfl⟩) | (go_at_call 68; refine (size32 g s _ _ (hS _)).mono ?_; rintro e w' ⟨rfl, mq, rfl⟩) | (go_at_call 46; refine (ready32 g s _ (hS _)).mono ?_; rintro e w' ⟨rfl, mq, rfl⟩))
      go_ret
      exact ⟨rfl, (below_alloc_ w _).drewN_ _⟩
  by_cases o6 : op = 6
  · subst o6
    cases hp : s.pr with
    | false =>
      rw [hp] at hc1
      have e1 : may32E s 6 n l = sizeE s.cap n := by simp [may32E, hp]
      rw [e1]
      clear e1
      go_enter Try.func39, Try.ntmps39
      go_wp2_with (first | (go_at_call 67; refine (free32 g s _ _ (hS _)).mono ?_; rintro e w' ⟨rfl, mq, rfl⟩) | (go_at_call 68; refine (size32 g s _ _ (hS _)).mono ?_; rintro e w' ⟨rfl, mq, rfl⟩) | (go_at_call 46; refine (ready32 g s _ (hS _)).mono ?_; rintro e w' ⟨rfl, mq, rfl⟩))
      go_ret
      exact ⟨rfl, (below_alloc_ w _).drewN_ _⟩
    | true =>
      rw [hp] at hc1
      have e1 : may32E s 6 n l = 12 := by simp [may32E, hp]
      rw [e1]
      clear e1
      go_enter Try.func39, Try.ntmps39
      go_wp2_with (first | (go_at_call 67; refine (free32 g s _ _ (hS _)).mono ?_; rintro e w' ⟨rfl, mq, rfl⟩) | (go_at_call 68; refine (size32 g s _ _ (hS _)).mono ?_; rintro e w' ⟨rfl, mq, rfl⟩) | (go_at_call 46; refine (ready32 g s _ (hS _)).mono ?_; rintro e w' ⟨rfl, mq, rfl⟩))
      go_ret
      exact ⟨rfl, (below_alloc_ w _)⟩
  have q1 : (op == 1) = false := by simpa using o1
  have q2 : (op == 2) = false := by simpa using o2
  have q3 : (op == 3) = false := by simpa using o3
  have q4 : (op == 4) = false := by simpa using o4
  have q5 : (op == 5) = false := by simpa using o5
  have q6 : (op == 6) = false := by simpa using o6
  cases hp : s.pr with
  | false =>
    rw [hp] at hc1
    have e1 : may32E s op n l = 12 := by simp [may32E, hp, o1, o2, o3, o4, o5, o6, q1, q2, q5]
    rw [e1]
    clear e1
    go_enter Try.func39, Try.ntmps39
    go_wp2_with (first | (go_at_call 67; refine (free32 g s _ _ (hS _)).mono ?_; rintro e w' ⟨rfl, mq, rfl⟩) | (go_at_call 68; refine (size32 g s _ _ (hS _)).mono ?_; rintro e w' ⟨rfl, mq, rfl⟩) | (go_at_call 46; refine (ready32 g s _ (hS _)).mono ?_; rintro e w' ⟨rfl, mq, rfl⟩))
    go_ret
    exact ⟨rfl, (below_alloc_ w _)⟩
  | true =>
    rw [hp] at hc1
    have e1 : may32E s op n l = 12 := by simp [may32E, hp, o1, o2, o3, o4, o5, o6, q1, q2, q5]
    rw [e1]
    clear e1
    go_enter Try.func39, Try.ntmps39
    go_wp2_with (first | (go_at_call 67; refine (free32 g s _ _ (hS _)).mono ?_; rintro e w' ⟨rfl, mq, rfl⟩) | (go_at_call 68; refine (size32 g s _ _ (hS _)).mono ?_; rintro e w' ⟨rfl, mq, rfl⟩) | (go_at_call 46; refine (ready32 g s _ (hS _)).mono ?_; rintro e w' ⟨rfl, mq, rfl⟩))
    go_ret
    exact ⟨rfl, (below_alloc_ w _)⟩
theorem gate64 (g : Nat) (s : HS) (w : World) (hs : Stands .u64 82 w g s) : Calls Try.prog 25 #[.pointer (some ⟨g, 0, none⟩)] w fun e w' => e = .returned (.int .u64 s.gate) ∧ w' = w := by
  have hg : w.heap[g]? = some (.cells (cells .u64 s) 82 (0, 0)) := hs
  have hc0 : w.cell? ⟨g, 0, none⟩ = some (.int .i64 s.cap) := by simp [World.cell?, hg, cells]
  have hc1 : w.cell? ⟨g, 1, none⟩ = some (.bool s.pr) := by simp [World.cell?, hg, cells]
  have hc2 : w.cell? ⟨g, 2, none⟩ = some (.bool s.held) := by simp [World.cell?, hg, cells]
  have hc3 : w.cell? ⟨g, 3, none⟩ = some (.int .u64 s.fr) := by simp [World.cell?, hg, cells]
  have hc4 : w.cell? ⟨g, 4, none⟩ = some (.int .i64 s.n) := by simp [World.cell?, hg, cells]
  have hc5 : w.cell? ⟨g, 5, none⟩ = some (.int .u64 s.gate) := by simp [World.cell?, hg, cells]
  have hc6 : w.cell? ⟨g, 6, none⟩ = some (.int .u64 s.upto) := by simp [World.cell?, hg, cells]
  clear hg
  go_enter Try.func25, Try.ntmps25
  go_wp2
  go_ret
  exact ⟨rfl, rfl⟩
theorem gate64_nil (w : World) : Calls Try.prog 25 #[.pointer none] w fun e w' => e = .returned (.int .u64 0) ∧ Dr w w' := by
  go_enter Try.func25, Try.ntmps25
  go_wp2
  go_ret
  exact ⟨rfl, 0, rfl⟩
theorem upto64 (g : Nat) (s : HS) (w : World) (hs : Stands .u64 82 w g s) : Calls Try.prog 26 #[.pointer (some ⟨g, 0, none⟩)] w fun e w' => e = .returned (.int .u64 s.upto) ∧ w' = w := by
  have hg : w.heap[g]? = some (.cells (cells .u64 s) 82 (0, 0)) := hs
  have hc0 : w.cell? ⟨g, 0, none⟩ = some (.int .i64 s.cap) := by simp [World.cell?, hg, cells]
  have hc1 : w.cell? ⟨g, 1, none⟩ = some (.bool s.pr) := by simp [World.cell?, hg, cells]
  have hc2 : w.cell? ⟨g, 2, none⟩ = some (.bool s.held) := by simp [World.cell?, hg, cells]
  have hc3 : w.cell? ⟨g, 3, none⟩ = some (.int .u64 s.fr) := by simp [World.cell?, hg, cells]
  have hc4 : w.cell? ⟨g, 4, none⟩ = some (.int .i64 s.n) := by simp [World.cell?, hg, cells]
  have hc5 : w.cell? ⟨g, 5, none⟩ = some (.int .u64 s.gate) := by simp [World.cell?, hg, cells]
  have hc6 : w.cell? ⟨g, 6, none⟩ = some (.int .u64 s.upto) := by simp [World.cell?, hg, cells]
  clear hg
  go_enter Try.func26, Try.ntmps26
  go_wp2
  go_ret
  exact ⟨rfl, rfl⟩
theorem upto64_nil (w : World) : Calls Try.prog 26 #[.pointer none] w fun e w' => e = .returned (.int .u64 0) ∧ Dr w w' := by
  go_enter Try.func26, Try.ntmps26
  go_wp2
  go_ret
  exact ⟨rfl, 0, rfl⟩
theorem ready64 (g : Nat) (s : HS) (w : World) (hs : Stands .u64 82 w g s) : Calls Try.prog 29 #[.pointer (some ⟨g, 0, none⟩)] w fun e w' => e = .returned (.int .i64 (d64 s.upto s.gate)) ∧ Dr w w' := by
  have hg : w.heap[g]? = some (.cells (cells .u64 s) 82 (0, 0)) := hs
  have hc0 : w.cell? ⟨g, 0, none⟩ = some (.int .i64 s.cap) := by simp [World.cell?, hg, cells]
  have hc1 : w.cell? ⟨g, 1, none⟩ = some (.bool s.pr) := by simp [World.cell?, hg, cells]
  have hc2 : w.cell? ⟨g, 2, none⟩ = some (.bool s.held) := by simp [World.cell?, hg, cells]
  have hc3 : w.cell? ⟨g, 3, none⟩ = some (.int .u64 s.fr) := by simp [World.cell?, hg, cells]
  have hc4 : w.cell? ⟨g, 4, none⟩ = some (.int .i64 s.n) := by simp [World.cell?, hg, cells]
  have hc5 : w.cell? ⟨g, 5, none⟩ = some (.int .u64 s.gate) := by simp [World.cell?, hg, cells]
  have hc6 : w.cell? ⟨g, 6, none⟩ = some (.int .u64 s.upto) := by simp [World.cell?, hg, cells]
  clear hg
  go_enter Try.func29, Try.ntmps29
  go_wp2_with (fail)
  go_quiet ((go_at_call 30; refine (diff64 _ _ _).mono ?_; rintro e w' ⟨rfl, rfl⟩; exact ⟨rfl, _, rfl⟩))
  go_wp2
  go_ret
  exact ⟨rfl, _, rfl⟩
theorem ready64_nil (w : World) : Calls Try.prog 29 #[.pointer none] w fun e w' => e = .returned (.int .i64 0) ∧ Dr w w' := by
  go_enter Try.func29, Try.ntmps29
  go_wp2
  go_ret
  exact ⟨rfl, 0, rfl⟩
theorem size64 (g : Nat) (s : HS) (n : Int) (w : World) (hs : Stands .u64 82 w g s) : Calls Try.prog 70 #[.pointer (some ⟨g, 0, none⟩), .int .i64 n] w fun e w' => e = .returned (.int .i64 (sizeE s.cap n)) ∧ Dr w w' := by
  have hg : w.heap[g]? = some (.cells (cells .u64 s) 82 (0, 0)) := hs
  have hc0 : w.cell? ⟨g, 0, none⟩ = some (.int .i64 s.cap) := by simp [World.cell?, hg, cells]
  have hc1 : w.cell? ⟨g, 1, none⟩ = some (.bool s.pr) := by simp [World.cell?, hg, cells]
  have hc2 : w.cell? ⟨g, 2, none⟩ = some (.bool s.held) := by simp [World.cell?, hg, cells]
  have hc3 : w.cell? ⟨g, 3, none⟩ = some (.int .u64 s.fr) := by simp [World.cell?, hg, cells]
  have hc4 : w.cell? ⟨g, 4, none⟩ = some (.int .i64 s.n) := by simp [World.cell?, hg, cells]
  have hc5 : w.cell? ⟨g, 5, none⟩ = some (.int .u64 s.gate) := by simp [World.cell?, hg, cells]
  have hc6 : w.cell? ⟨g, 6, none⟩ = some (.int .u64 s.upto) := by simp [World.cell?, hg, cells]
  clear hg
  unfold sizeE
  by_cases c1 : n < 1
  · have t1 : decide (n < 1) = true := decide_eq_true c1
    rw [if_pos (.inl c1)]
    go_enter Try.func70, Try.ntmps70
    go_wp2
    go_ret
    exact ⟨rfl, 0, rfl⟩
  · have t1 : decide (n < 1) = false := decide_eq_false c1
    by_cases c2 : s.cap < n
    · have t2 : decide (s.cap < n) = true := decide_eq_true c2
      rw [if_pos (.inr c2)]
      go_enter Try.func70, Try.ntmps70
      go_wp2
      go_ret
      exact ⟨rfl, 0, rfl⟩
    · have t2 : decide (s.cap < n) = false := decide_eq_false c2
      rw [if_neg (by omega)]
      go_enter Try.func70, Try.ntmps70
      go_wp2
      go_ret
      exact ⟨rfl, 0, rfl⟩
theorem span64 (g : Nat) (s : HS) (w : World) (hs : Stands .u64 82 w g s) : Calls Try.prog 78 #[.pointer (some ⟨g, 0, none⟩)] w fun e w' => e = .returned (.tuple #[.agg #[.int .u64 s.fr, .int .i64 s.n], .bool s.held]) ∧ Below w.heap.size w w' := by
  have hg : w.heap[g]? = some (.cells (cells .u64 s) 82 (0, 0)) := hs
  have hc0 : w.cell? ⟨g, 0, none⟩ = some (.int .i64 s.cap) := by simp [World.cell?, hg, cells]
  have hc1 : w.cell? ⟨g, 1, none⟩ = some (.bool s.pr) := by simp [World.cell?, hg, cells]
  have hc2 : w.cell? ⟨g, 2, none⟩ = some (.bool s.held) := by simp [World.cell?, hg, cells]
  have hc3 : w.cell? ⟨g, 3, none⟩ = some (.int .u64 s.fr) := by simp [World.cell?, hg, cells]
  have hc4 : w.cell? ⟨g, 4, none⟩ = some (.int .i64 s.n) := by simp [World.cell?, hg, cells]
  have hc5 : w.cell? ⟨g, 5, none⟩ = some (.int .u64 s.gate) := by simp [World.cell?, hg, cells]
  have hc6 : w.cell? ⟨g, 6, none⟩ = some (.int .u64 s.upto) := by simp [World.cell?, hg, cells]
  clear hg
  have hu := Try.underlying80
  have hlt : g < w.heap.size := Stands.lt hs
  have ha0 := (alloc_cell w (Obj.cells #[.int .u64 0, .int .i64 0] 80) ⟨g, 0, none⟩ hlt).trans hc0
  have ha1 := (alloc_cell w (Obj.cells #[.int .u64 0, .int .i64 0] 80) ⟨g, 1, none⟩ hlt).trans hc1
  have ha2 := (alloc_cell w (Obj.cells #[.int .u64 0, .int .i64 0] 80) ⟨g, 2, none⟩ hlt).trans hc2
  have ha3 := (alloc_cell w (Obj.cells #[.int .u64 0, .int .i64 0] 80) ⟨g, 3, none⟩ hlt).trans hc3
  have ha4 := (alloc_cell w (Obj.cells #[.int .u64 0, .int .i64 0] 80) ⟨g, 4, none⟩ hlt).trans hc4
  have ha5 := (alloc_cell w (Obj.cells #[.int .u64 0, .int .i64 0] 80) ⟨g, 5, none⟩ hlt).trans hc5
  have ha6 := (alloc_cell w (Obj.cells #[.int .u64 0, .int .i64 0] 80) ⟨g, 6, none⟩ hlt).trans hc6
  go_enter Try.func78, Try.ntmps78
  go_wp2_with (fail)
  go_region
  go_wp2
  refine bodyPost_ret (results_ct rfl _ _ w.heap.size 80 #[.int .u64 s.fr, .int .i64 s.n] (0, 0) _ rfl (heap_alloc_new w _) Try.underlying80 rfl (by kernel_rfl)) rfl ?_
  exact ⟨rfl, (below_alloc_ w _).drew⟩
theorem span64_nil (w : World) : Calls Try.prog 78 #[.pointer none] w fun e w' => e = .returned (.tuple #[.agg #[.int .u64 0, .int .i64 0], .bool false]) ∧ Below w.heap.size w w' := by
  have hu := Try.underlying80
  go_enter Try.func78, Try.ntmps78
  go_wp2
  refine bodyPost_ret (results_ct rfl _ _ w.heap.size 80 #[.int .u64 0, .int .i64 0] (0, 0) _ rfl (heap_alloc_new w _) Try.underlying80 rfl (by kernel_rfl)) rfl ?_
  exact ⟨rfl, (below_alloc_ w _)⟩
theorem published64 (g : Nat) (s : HS) (w : World) (hs : Stands .u64 82 w g s) : Calls Try.prog 60 #[.pointer (some ⟨g, 0, none⟩)] w fun e w' => e = .returned (.bool (publishedF s).2) ∧ Stands .u64 82 w' g (publishedF s).1 ∧ Only g w w' := by
  have hg : w.heap[g]? = some (.cells (cells .u64 s) 82 (0, 0)) := hs
  have hc0 : w.cell? ⟨g, 0, none⟩ = some (.int .i64 s.cap) := by simp [World.cell?, hg, cells]
  have hc1 : w.cell? ⟨g, 1, none⟩ = some (.bool s.pr) := by simp [World.cell?, hg, cells]
  have hc2 : w.cell? ⟨g, 2, none⟩ = some (.bool s.held) := by simp [World.cell?, hg, cells]
  have hc3 : w.cell? ⟨g, 3, none⟩ = some (.int .u64 s.fr) := by simp [World.cell?, hg, cells]
  have hc4 : w.cell? ⟨g, 4, none⟩ = some (.int .i64 s.n) := by simp [World.cell?, hg, cells]
  have hc5 : w.cell? ⟨g, 5, none⟩ = some (.int .u64 s.gate) := by simp [World.cell?, hg, cells]
  have hc6 : w.cell? ⟨g, 6, none⟩ = some (.int .u64 s.upto) := by simp [World.cell?, hg, cells]
  clear hg
  have hf0 : w.frozen? ⟨g, 0, none⟩ = false := by simp [World.frozen?, show w.heap[g]? = some (.cells (cells .u64 s) 82 (0, 0)) from hs]
  have hf1 : w.frozen? ⟨g, 1, none⟩ = false := by simp [World.frozen?, show w.heap[g]? = some (.cells (cells .u64 s) 82 (0, 0)) from hs]
  have hf2 : w.frozen? ⟨g, 2, none⟩ = false := by simp [World.frozen?, show w.heap[g]? = some (.cells (cells .u64 s) 82 (0, 0)) from hs]
  have hf3 : w.frozen? ⟨g, 3, none⟩ = false := by simp [World.frozen?, show w.heap[g]? = some (.cells (cells .u64 s) 82 (0, 0)) from hs]
  have hf4 : w.frozen? ⟨g, 4, none⟩ = false := by simp [World.frozen?, show w.heap[g]? = some (.cells (cells .u64 s) 82 (0, 0)) from hs]
  have hf5 : w.frozen? ⟨g, 5, none⟩ = false := by simp [World.frozen?, show w.heap[g]? = some (.cells (cells .u64 s) 82 (0, 0)) from hs]
  have hf6 : w.frozen? ⟨g, 6, none⟩ = false := by simp [World.frozen?, show w.heap[g]? = some (.cells (cells .u64 s) 82 (0, 0)) from hs]
  have hu := Try.underlying80
  cases hh : s.held with
  | false =>
    rw [hh] at hc2
    have e1 : publishedF s = (s, false) := by simp [publishedF, hh]
    rw [e1]
    go_enter Try.func60, Try.ntmps60
    go_wp2
    go_ret
    exact ⟨rfl, hs, Only.refl _ _⟩
  | true =>
    rw [hh] at hc2
    have e1 : publishedF s = ({ s with held := false, fr := 0, n := 0 }, true) := by simp [publishedF, hh]
    rw [e1]
    go_enter Try.func60, Try.ntmps60
    go_wp2
    go_ret
    refine ⟨rfl, ?_, ?_⟩
    · exact blk_put (blk_put (blk_put (show w.heap[g]? = some (.cells (cells .u64 s) 82 (0, 0)) from hs) 2 _ rfl) 3 _ rfl) 4 _ rfl
    · exact by repeat (first | exact Only.refl _ _ | apply Only.drew | apply Only.drewN | apply Only.set)
theorem claimed64 (g : Nat) (s : HS) (fr n : Int) (w : World) (hs : Stands .u64 82 w g s) : Calls Try.prog 59 #[.pointer (some ⟨g, 0, none⟩), .agg #[.int .u64 fr, .int .i64 n]] w fun e w' => e = .returned (.bool (claimedF fr n s).2) ∧ Stands .u64 82 w' g (claimedF fr n s).1 ∧ Only g w w' := by
  have hu := Try.underlying80
  have hlt := hs.lt
  have hS := fun o => hs.old (below_alloc_ w o)
  have hO := fun o => Only.of_below (g := g) (below_alloc_ w o)
  have hc0 := fun o => (hS o).cells.1
  have hc1 := fun o => (hS o).cells.2.1
  have hc2 := fun o => (hS o).cells.2.2.1
  cases hp : s.pr with
  | false =>
    rw [hp] at hc1
    have e1 : claimedF fr n s = (s, false) := by simp [claimedF, hp]
    rw [e1]
    clear e1
    go_enter Try.func59, Try.ntmps59
    go_wp2
    go_ret
    exact ⟨rfl, hS _, hO _⟩
  | true =>
    rw [hp] at hc1
    cases hh : s.held with
    | true =>
      rw [hh] at hc2
      have e1 : claimedF fr n s = (s, false) := by simp [claimedF, hh]
      rw [e1]
      clear e1
      go_enter Try.func59, Try.ntmps59
      go_wp2
      go_ret
      exact ⟨rfl, hS _, hO _⟩
    | false =>
      rw [hh] at hc2
      by_cases c : sizeE s.cap n = 0
      · have e1 : claimedF fr n s = ({ s with held := true, fr := fr, n := n }, true) := by simp [claimedF, hp, hh, c]
        rw [e1]
        clear e1
        go_enter Try.func59, Try.ntmps59
        go_wp2_with (go_at_call 70; refine (size64 g s _ _ (hS _)).mono ?_; rintro e w' ⟨rfl, mq, rfl⟩)
        clear hc0 hc1 hc2
        have hz : w.heap.size ≠ g := by omega
        have hz' : g ≠ w.heap.size := by omega
        have hn0 : (w.alloc (.cells #[.int .u64 fr, .int .i64 n] 80)).cell? ⟨w.heap.size, 0, none⟩ = some (.int .u64 fr) := fresh_cell w _ _ _ _ rfl
        have hn1 : (w.alloc (.cells #[.int .u64 fr, .int .i64 n] 80)).cell? ⟨w.heap.size, 1, none⟩ = some (.int .i64 n) := fresh_cell w _ _ _ _ rfl
        have hS1 := hS (.cells #[.int .u64 fr, .int .i64 n] 80)
        have hO1 := hO (.cells #[.int .u64 fr, .int .i64 n] 80)
        clear hS hO
        generalize (w.alloc (.cells #[.int .u64 fr, .int .i64 n] 80)) = w1 at *
        obtain ⟨w2, hq⟩ : ∃ w2, w2 = w1.drewN mq := ⟨_, rfl⟩
        have hO2 : Only g w w2 := by rw [hq]; exact hO1.drewN _
        have hS2 : Stands .u64 82 w2 g s := by rw [hq]; exact hS1
        replace hn0 : w2.cell? ⟨w.heap.size, 0, none⟩ = some (.int .u64 fr) := by rw [hq]; exact hn0
        replace hn1 : w2.cell? ⟨w.heap.size, 1, none⟩ = some (.int .i64 n) := by rw [hq]; exact hn1
        rw [← hq]
        clear hq hO1 hS1
        generalize w.heap.size = z at *
        have ha2 := hS2.cells.2.2.1
        have ha3 := hS2.cells.2.2.2.1
        have ha4 := hS2.cells.2.2.2.2.1
        have hb2 := hS2.frozen 2
        have hb3 := hS2.frozen 3
        have hb4 := hS2.frozen 4
        go_region
        go_wp2
        go_ret
        exact ⟨rfl, ((hS2.put (s' := { s with held := true }) 2 _ rfl).put (s' := { s with held := true, fr := fr }) 3 _ rfl).put (s' := { s with held := true, fr := fr, n := n }) 4 _ rfl, by repeat (first | exact hO2 | apply Only.drew | apply Only.drewN | apply Only.set)⟩
      · have e1 : claimedF fr n s = (s, false) := by simp [claimedF, c]
        have t1 : (sizeE s.cap n == 0) = false := by simpa using c
        rw [e1]
        clear e1
        go_enter Try.func59, Try.ntmps59
        go_wp2_with (go_at_call 70; refine (size64 g s _ _ (hS _)).mono ?_; rintro e w' ⟨rfl, mq, rfl⟩)
        go_ret
        exact ⟨rfl, (hS _).drewN _, (hO _).drewN _⟩
def saw64F (u : Int) (s : HS) : HS × Bool := if s.pr = false ∧ d64 s.upto s.gate ≤ d64 u s.gate ∧ d64 u s.gate ≤ s.cap then ({ s with upto := u }, true) else (s, false)
def released64F (n : Int) (s : HS) : HS × Bool := if 1 ≤ n ∧ n ≤ d64 s.upto s.gate then ({ s with gate := a64 s.gate n }, true) else (s, false)
theorem saw64 (g : Nat) (s : HS) (u : Int) (w : World) (hs : Stands .u64 82 w g s) : Calls Try.prog 61 #[.pointer (some ⟨g, 0, none⟩), .int .u64 u] w fun e w' => e = .returned (.bool (saw64F u s).2) ∧ Stands .u64 82 w' g (saw64F u s).1 ∧ Only g w w' := by
  have hc0 := hs.cells.1
  have hc1 := hs.cells.2.1
  have hc5 := hs.cells.2.2.2.2.2.1
  have hc6 := hs.cells.2.2.2.2.2.2
  have hf6 := hs.frozen 6
  cases hp : s.pr with
  | true =>
    rw [hp] at hc1
    have e1 : saw64F u s = (s, false) := by simp [saw64F, hp]
    rw [e1]
    clear e1
    go_enter Try.func61, Try.ntmps61
    go_wp2
    go_ret
    exact ⟨rfl, hs, Only.refl _ _⟩
  | false =>
    rw [hp] at hc1
    by_cases c1 : d64 u s.gate < d64 s.upto s.gate
    · have e1 : saw64F u s = (s, false) := by unfold saw64F; rw [if_neg (by omega)]
      have t1 : decide (d64 u s.gate < d64 s.upto s.gate) = true := decide_eq_true c1
      rw [e1]
      clear e1
      go_enter Try.func61, Try.ntmps61
      go_wp2_with (first | (go_at_call 30; refine (diff64 _ _ _).mono ?_; rintro e w' ⟨rfl, rfl⟩) | (go_at_call 29; refine (ready64 g s _ hs).mono ?_; rintro e w' ⟨rfl, mq, rfl⟩))
      go_ret
      exact ⟨rfl, hs.drewN _, (Only.refl _ _).drewN _⟩
    · have t1 : decide (d64 u s.gate < d64 s.upto s.gate) = false := decide_eq_false c1
      by_cases c2 : s.cap < d64 u s.gate
      · have e1 : saw64F u s = (s, false) := by unfold saw64F; rw [if_neg (by omega)]
        have t2 : decide (s.cap < d64 u s.gate) = true := decide_eq_true c2
        rw [e1]
        clear e1
        go_enter Try.func61, Try.ntmps61
        go_wp2_with (first | (go_at_call 30; refine (diff64 _ _ _).mono ?_; rintro e w' ⟨rfl, rfl⟩) | (go_at_call 29; refine (ready64 g s _ hs).mono ?_; rintro e w' ⟨rfl, mq, rfl⟩))
        go_ret
        exact ⟨rfl, hs.drewN _, (Only.refl _ _).drewN _⟩
      · have e1 : saw64F u s = ({ s with upto := u }, true) := by unfold saw64F; rw [if_pos ⟨hp, by omega, by omega⟩]
        have t2 : decide (s.cap < d64 u s.gate) = false := decide_eq_false c2
        rw [e1]
        clear e1
        go_enter Try.func61, Try.ntmps61
        go_wp2_with (first | (go_at_call 30; refine (diff64 _ _ _).mono ?_; rintro e w' ⟨rfl, rfl⟩) | (go_at_call 29; refine (ready64 g s _ hs).mono ?_; rintro e w' ⟨rfl, mq, rfl⟩))
        go_ret
        exact ⟨rfl, (hs.drewN _).put (s' := { s with upto := u }) 6 _ rfl, by repeat (first | exact Only.refl _ _ | apply Only.drew | apply Only.drewN | apply Only.set)⟩
theorem released64 (g : Nat) (s : HS) (n : Int) (w : World) (hs : Stands .u64 82 w g s) : Calls Try.prog 63 #[.pointer (some ⟨g, 0, none⟩), .int .i64 n] w fun e w' => e = .returned (.bool (released64F n s).2) ∧ Stands .u64 82 w' g (released64F n s).1 ∧ Only g w w' := by
  have hc5 := hs.cells.2.2.2.2.2.1
  have hf5 := hs.frozen 5
  by_cases c1 : n < 1
  · have e1 : released64F n s = (s, false) := by unfold released64F; rw [if_neg (by omega)]
    have t1 : decide (n < 1) = true := decide_eq_true c1
    rw [e1]
    clear e1
    go_enter Try.func63, Try.ntmps63
    go_wp2
    go_ret
    exact ⟨rfl, hs, Only.refl _ _⟩
  · have t1 : decide (n < 1) = false := decide_eq_false c1
    by_cases c2 : d64 s.upto s.gate < n
    · have e1 : released64F n s = (s, false) := by unfold released64F; rw [if_neg (by omega)]
      have t2 : decide (d64 s.upto s.gate < n) = true := decide_eq_true c2
      rw [e1]
      clear e1
      go_enter Try.func63, Try.ntmps63
      go_wp2_with (go_at_call 29; refine (ready64 g s _ hs).mono ?_; rintro e w' ⟨rfl, mq, rfl⟩)
      go_ret
      exact ⟨rfl, hs.drewN _, (Only.refl _ _).drewN _⟩
    · have e1 : released64F n s = ({ s with gate := a64 s.gate n }, true) := by unfold released64F; rw [if_pos ⟨by omega, by omega⟩]
      have t2 : decide (d64 s.upto s.gate < n) = false := decide_eq_false c2
      rw [e1]
      clear e1
      go_enter Try.func63, Try.ntmps63
      go_wp2_with (first | (go_at_call 62; refine (add64 _ _ _).mono ?_; rintro e w' ⟨rfl, rfl⟩) | (go_at_call 29; refine (ready64 g s _ hs).mono ?_; rintro e w' ⟨rfl, mq, rfl⟩))
      go_ret
      exact ⟨rfl, (hs.drewN _).put (s' := { s with gate := a64 s.gate n }) 5 _ rfl, by repeat (first | exact Only.refl _ _ | apply Only.drew | apply Only.drewN | apply Only.set)⟩
def free64E (s : HS) (n : Int) : Int := if sizeE s.cap n = 0 then (if s.held = true then 14 else 0) else sizeE s.cap n
theorem free64 (g : Nat) (s : HS) (n : Int) (w : World) (hs : Stands .u64 82 w g s) : Calls Try.prog 69 #[.pointer (some ⟨g, 0, none⟩), .int .i64 n] w fun e w' => e = .returned (.int .i64 (free64E s n)) ∧ Dr w w' := by
  have hc2 := hs.cells.2.2.1
  unfold free64E
  by_cases c : sizeE s.cap n = 0
  · rw [if_pos c]
    cases hh : s.held with
    | true =>
      rw [hh] at hc2
      rw [if_pos rfl]
      go_enter Try.func69, Try.ntmps69
      go_wp2_with (go_at_call 70; refine (size64 g s _ _ hs).mono ?_; rintro e w' ⟨rfl, mq, rfl⟩)
      go_ret
      exact ⟨rfl, _, rfl⟩
    | false =>
      rw [hh] at hc2
      rw [if_neg (by decide)]
      go_enter Try.func69, Try.ntmps69
      go_wp2_with (go_at_call 70; refine (size64 g s _ _ hs).mono ?_; rintro e w' ⟨rfl, mq, rfl⟩)
      go_ret
      exact ⟨rfl, _, rfl⟩
  · have t1 : (sizeE s.cap n == 0) = false := by simpa using c
    rw [if_neg c]
    go_enter Try.func69, Try.ntmps69
    go_wp2_with (go_at_call 70; refine (size64 g s _ _ hs).mono ?_; rintro e w' ⟨rfl, mq, rfl⟩)
    go_ret
    exact ⟨rfl, _, rfl⟩
def may64E (s : HS) (op n l : Int) : Int := if (op == 1 || op == 2 || op == 5) = s.pr then (if op = 5 then free64E s l else if op = 1 then free64E s n else if op = 2 then (if s.held = true then 0 else 14) else if op = 4 then (if n < 1 ∨ d64 s.upto s.gate < n then 13 else 0) else if op = 6 then sizeE s.cap n else if op = 3 then 0 else 12) else 12
set_option maxHeartbeats 8000000 in
theorem may64 (g : Nat) (s : HS) (op n : Int) (A : Option Addr) (l C : Nat) (w : World) (hs : Stands .u64 82 w g s) : Calls Try.prog 40 #[.pointer (some ⟨g, 0, none⟩), .agg #[.int .i64 op, .int .i64 n, .slice A l C]] w fun e w' => e = .returned (.int .i64 (may64E s op n l)) ∧ Below w.heap.size w w' := by
  have hS := fun o => hs.old (below_alloc_ w o)
  have hc1 := fun o => (hS o).cells.2.1
  have hc2 := fun o => (hS o).cells.2.2.1
  by_cases o1 : op = 1
  · subst o1
    cases hp : s.pr with
    | false =>
      rw [hp] at hc1
      have e1 : may64E s 1 n l = 12 := by simp [may64E, hp]
      rw [e1]
      clear e1
      go_enter Try.func40, Try.ntmps40
      go_wp2_with (first | (go_at_call 69; refine (free64 g s _ _ (hS _)).mono ?_; rintro e w' ⟨rfl, mq, rfl⟩) | (go_at_call 70; refine (size64 g s _ _ (hS _)).mono ?_; rintro e w' ⟨rfl, mq, rfl⟩) | (go_at_call 29; refine (ready64 g s _ (hS _)).mono ?_; rintro e w' ⟨rfl, mq, rfl⟩))
      go_ret
      exact ⟨rfl, (below_alloc_ w _)⟩
    | true =>
      rw [hp] at hc1
      have e1 : may64E s 1 n l = free64E s n := by simp [may64E, hp]
      rw [e1]
      clear e1
      go_enter Try.func40, Try.ntmps40
      go_wp2_with (first | (go_at_call 69; refine (free64 g s _ _ (hS _)).mono ?_; rintro e w' ⟨rfl, mq, rfl⟩) | (go_at_call 70; refine (size64 g s _ _ (hS _)).mono ?_; rintro e w' ⟨rfl, mq, rfl⟩) | (go_at_call 29; refine (ready64 g s _ (hS _)).mono ?_; rintro e w' ⟨rfl, mq, rfl⟩))
      go_ret
      exact ⟨rfl, (below_alloc_ w _).drewN_ _⟩
  by_cases o2 : op = 2
  · subst o2
    cases hp : s.pr with
    | false =>
      rw [hp] at hc1
      have e1 : may64E s 2 n l = 12 := by simp [may64E, hp]
      rw [e1]
      clear e1
      go_enter Try.func40, Try.ntmps40
      go_wp2_with (first | (go_at_call 69; refine (free64 g s _ _ (hS _)).mono ?_; rintro e w' ⟨rfl, mq, rfl⟩) | (go_at_call 70; refine (size64 g s _ _ (hS _)).mono ?_; rintro e w' ⟨rfl, mq, rfl⟩) | (go_at_call 29; refine (ready64 g s _ (hS _)).mono ?_; rintro e w' ⟨rfl, mq, rfl⟩))
      go_ret
      exact ⟨rfl, (below_alloc_ w _)⟩
    | true =>
      rw [hp] at hc1
      cases hh : s.held with
      | false =>
        rw [hh] at hc2
        have e1 : may64E s 2 n l = 14 := by simp [may64E, hp, hh]
        rw [e1]
        clear e1
        go_enter Try.func40, Try.ntmps40
        go_wp2_with (first | (go_at_call 69; refine (free64 g s _ _ (hS _)).mono ?_; rintro e w' ⟨rfl, mq, rfl⟩) | (go_at_call 70; refine (size64 g s _ _ (hS _)).mono ?_; rintro e w' ⟨rfl, mq, rfl⟩) | (go_at_call 29; refine (ready64 g s _ (hS _)).mono ?_; rintro e w' ⟨rfl, mq, rfl⟩))
        go_ret
        exact ⟨rfl, (below_alloc_ w _)⟩
      | true =>
        rw [hh] at hc2
        have e1 : may64E s 2 n l = 0 := by simp [may64E, hp, hh]
        rw [e1]
        clear e1
        go_enter Try.func40, Try.ntmps40
        go_wp2_with (first | (go_at_call 69; refine (free64 g s _ _ (hS _)).mono ?_; rintro e w' ⟨rfl, mq, rfl⟩) | (go_at_call 70; refine (size64 g s _ _ (hS _)).mono ?_; rintro e w' ⟨rfl, mq, rfl⟩) | (go_at_call 29; refine (ready64 g s _ (hS _)).mono ?_; rintro e w' ⟨rfl, mq, rfl⟩))
        go_ret
        exact ⟨rfl, (below_alloc_ w _)⟩
  by_cases o3 : op = 3
  · subst o3
    cases hp : s.pr with
    | false =>
      rw [hp] at hc1
      have e1 : may64E s 3 n l = 0 := by simp [may64E, hp]
      rw [e1]
      clear e1
      go_enter Try.func40, Try.ntmps40
      go_wp2_with (first | (go_at_call 69; refine (free64 g s _ _ (hS _)).mono ?_; rintro e w' ⟨rfl, mq, rfl⟩) | (go_at_call 70; refine (size64 g s _ _ (hS _)).mono ?_; rintro e w' ⟨rfl, mq, rfl⟩) | (go_at_call 29; refine (ready64 g s _ (hS _)).mono ?_; rintro e w' ⟨rfl, mq, rfl⟩))
      go_ret
      exact ⟨rfl, (below_alloc_ w _)⟩
    | true =>
      rw [hp] at hc1
      have e1 : may64E s 3 n l = 12 := by simp [may64E, hp]
      rw [e1]
      clear e1
      go_enter Try.func40, Try.ntmps40
      go_wp2_with (first | (go_at_call 69; refine (free64 g s _ _ (hS _)).mono ?_; rintro e w' ⟨rfl, mq, rfl⟩) | (go_at_call 70; refine (size64 g s _ _ (hS _)).mono ?_; rintro e w' ⟨rfl, mq, rfl⟩) | (go_at_call 29; refine (ready64 g s _ (hS _)).mono ?_; rintro e w' ⟨rfl, mq, rfl⟩))
      go_ret
      exact ⟨rfl, (below_alloc_ w _)⟩
  by_cases o4 : op = 4
  · subst o4
    cases hp : s.pr with
    | false =>
      rw [hp] at hc1
      by_cases k1 : n < 1
      · have t1 : decide (n < 1) = true := decide_eq_true k1
        have e1 : may64E s 4 n l = 13 := by simp [may64E, hp, k1]
        rw [e1]
        clear e1
        go_enter Try.func40, Try.ntmps40
        go_wp2_with (first | (go_at_call 69; refine (free64 g s _ _ (hS _)).mono ?_; rintro e w' ⟨rfl, mq, rfl⟩) | (go_at_call 70; refine (size64 g s _ _ (hS _)).mono ?_; rintro e w' ⟨rfl, mq, rfl⟩) | (go_at_call 29; refine (ready64 g s _ (hS _)).mono ?_; rintro e w' ⟨rfl, mq, rfl⟩))
        go_ret
        exact ⟨rfl, (below_alloc_ w _)⟩
      · have t1 : decide (n < 1) = false := decide_eq_false k1
        by_cases k2 : d64 s.upto s.gate < n
        · have t2 : decide (d64 s.upto s.gate < n) = true := decide_eq_true k2
          have e1 : may64E s 4 n l = 13 := by simp [may64E, hp, k2]
          rw [e1]
          clear e1
          go_enter Try.func40, Try.ntmps40
          go_wp2_with (first | (go_at_call 69; refine (free64 g s _ _ (hS _)).mono ?_; rintro e w' ⟨rfl, mq, rfl⟩) | (go_at_call 70; refine (size64 g s _ _ (hS _)).mono ?_; rintro e w' ⟨rfl, mq, rfl⟩) | (go_at_call 29; refine (ready64 g s _ (hS _)).mono ?_; rintro e w' ⟨rfl, mq, rfl⟩))
          go_ret
          exact ⟨rfl, (below_alloc_ w _).drewN_ _⟩
        · have t2 : decide (d64 s.upto s.gate < n) = false := decide_eq_false k2
          have e1 : may64E s 4 n l = 0 := by simp [may64E, hp]; omega
          rw [e1]
          clear e1
          go_enter Try.func40, Try.ntmps40
          go_wp2_with (first | (go_at_call 69; refine (free64 g s _ _ (hS _)).mono ?_; rintro e w' ⟨rfl, mq, rfl⟩) | (go_at_call 70; refine (size64 g s _ _ (hS _)).mono ?_; rintro e w' ⟨rfl, mq, rfl⟩) | (go_at_call 29; refine (ready64 g s _ (hS _)).mono ?_; rintro e w' ⟨rfl, mq, rfl⟩))
          go_ret
          exact ⟨rfl, (below_alloc_ w _).drewN_ _⟩
    | true =>
      rw [hp] at hc1
      have e1 : may64E s 4 n l = 12 := by simp [may64E, hp]
      rw [e1]
      clear e1
      go_enter Try.func40, Try.ntmps40
      go_wp2_with (first | (go_at_call 69; refine (free64 g s _ _ (hS _)).mono ?_; rintro e w' ⟨rfl, mq, rfl⟩) | (go_at_call 70; refine (size64 g s _ _ (hS _)).mono ?_; rintro e w' ⟨rfl, mq, rfl⟩) | (go_at_call 29; refine (ready64 g s _ (hS _)).mono ?_; rintro e w' ⟨rfl, mq, rfl⟩))
      go_ret
      exact ⟨rfl, (below_alloc_ w _)⟩
  by_cases o5 : op = 5
  · subst o5
    cases hp : s.pr with
    | false =>
      rw [hp] at hc1
      have e1 : may64E s 5 n l = 12 := by simp [may64E, hp]
      rw [e1]
      clear e1
      go_enter Try.func40, Try.ntmps40
      go_wp2_with (first | (go_at_call 69; refine (free64 g s _ _ (hS _)).mono ?_; rintro e w' ⟨rfl, mq, rfl⟩) | (go_at_call 70; refine (size64 g s _ _ (hS _)).mono ?_; rintro e w' ⟨rfl, mq, rfl⟩) | (go_at_call 29; refine (ready64 g s _ (hS _)).mono ?_; rintro e w' ⟨rfl, mq, rfl⟩))
      go_ret
      exact ⟨rfl, (below_alloc_ w _)⟩
    | true =>
      rw [hp] at hc1
      have e1 : may64E s 5 n l = free64E s l := by simp [may64E, hp]
      rw [e1]
      clear e1
      go_enter Try.func40, Try.ntmps40
      go_wp2_with (first | (go_at_call 69; refine (free64 g s _ _ (hS _)).mono ?_; rintro e w' ⟨rfl, mq, rfl⟩) | (go_at_call 70; refine (size64 g s _ _ (hS _)).mono ?_; rintro e w' ⟨rfl, mq, rfl⟩) | (go_at_call 29; refine (ready64 g s _ (hS _)).mono ?_; rintro e w' ⟨rfl, mq, rfl⟩))
      go_ret
      exact ⟨rfl, (below_alloc_ w _).drewN_ _⟩
  by_cases o6 : op = 6
  · subst o6
    cases hp : s.pr with
    | false =>
      rw [hp] at hc1
      have e1 : may64E s 6 n l = sizeE s.cap n := by simp [may64E, hp]
      rw [e1]
      clear e1
      go_enter Try.func40, Try.ntmps40
      go_wp2_with (first | (go_at_call 69; refine (free64 g s _ _ (hS _)).mono ?_; rintro e w' ⟨rfl, mq, rfl⟩) | (go_at_call 70; refine (size64 g s _ _ (hS _)).mono ?_; rintro e w' ⟨rfl, mq, rfl⟩) | (go_at_call 29; refine (ready64 g s _ (hS _)).mono ?_; rintro e w' ⟨rfl, mq, rfl⟩))
      go_ret
      exact ⟨rfl, (below_alloc_ w _).drewN_ _⟩
    | true =>
      rw [hp] at hc1
      have e1 : may64E s 6 n l = 12 := by simp [may64E, hp]
      rw [e1]
      clear e1
      go_enter Try.func40, Try.ntmps40
      go_wp2_with (first | (go_at_call 69; refine (free64 g s _ _ (hS _)).mono ?_; rintro e w' ⟨rfl, mq, rfl⟩) | (go_at_call 70; refine (size64 g s _ _ (hS _)).mono ?_; rintro e w' ⟨rfl, mq, rfl⟩) | (go_at_call 29; refine (ready64 g s _ (hS _)).mono ?_; rintro e w' ⟨rfl, mq, rfl⟩))
      go_ret
      exact ⟨rfl, (below_alloc_ w _)⟩
  have q1 : (op == 1) = false := by simpa using o1
  have q2 : (op == 2) = false := by simpa using o2
  have q3 : (op == 3) = false := by simpa using o3
  have q4 : (op == 4) = false := by simpa using o4
  have q5 : (op == 5) = false := by simpa using o5
  have q6 : (op == 6) = false := by simpa using o6
  cases hp : s.pr with
  | false =>
    rw [hp] at hc1
    have e1 : may64E s op n l = 12 := by simp [may64E, hp, o1, o2, o3, o4, o5, o6, q1, q2, q5]
    rw [e1]
    clear e1
    go_enter Try.func40, Try.ntmps40
    go_wp2_with (first | (go_at_call 69; refine (free64 g s _ _ (hS _)).mono ?_; rintro e w' ⟨rfl, mq, rfl⟩) | (go_at_call 70; refine (size64 g s _ _ (hS _)).mono ?_; rintro e w' ⟨rfl, mq, rfl⟩) | (go_at_call 29; refine (ready64 g s _ (hS _)).mono ?_; rintro e w' ⟨rfl, mq, rfl⟩))
    go_ret
    exact ⟨rfl, (below_alloc_ w _)⟩
  | true =>
    rw [hp] at hc1
    have e1 : may64E s op n l = 12 := by simp [may64E, hp, o1, o2, o3, o4, o5, o6, q1, q2, q5]
    rw [e1]
    clear e1
    go_enter Try.func40, Try.ntmps40
    go_wp2_with (first | (go_at_call 69; refine (free64 g s _ _ (hS _)).mono ?_; rintro e w' ⟨rfl, mq, rfl⟩) | (go_at_call 70; refine (size64 g s _ _ (hS _)).mono ?_; rintro e w' ⟨rfl, mq, rfl⟩) | (go_at_call 29; refine (ready64 g s _ (hS _)).mono ?_; rintro e w' ⟨rfl, mq, rfl⟩))
    go_ret
    exact ⟨rfl, (below_alloc_ w _)⟩
end Go.Proofs.Ytkakgmpcenfjlaa.Handle
