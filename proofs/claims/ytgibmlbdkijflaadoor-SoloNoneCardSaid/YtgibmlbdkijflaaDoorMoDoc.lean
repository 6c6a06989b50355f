/- The model's plain law: what the program keeps, what the document's list of events tells, and that a step keeps them alike. No program in sight. -/
import Derived.RowKit
import Derived.Test.YtgibmlbdkijflaaDoorChecked
import Derived.Test.YtgibmlbdkijflaaDoorWWords
import Derived.Test.YtgibmlbdkijflaaDoorWApart
import Derived.Test.YtgibmlbdkijflaaDoorWMore
import Derived.Test.YtgibmlbdkijflaaDoorWLast
import Derived.RegionTactic
import Derived.BigRegion
import Derived.StillTailTactics
import Derived.Test.YtgibmlbdkijflaaDoorQWi
import Derived.Test.YtgibmlbdkijflaaDoorGEndss
set_option linter.unusedVariables false
set_option linter.unusedSimpArgs false
namespace Go.Proofs.YtgibmlbdkijflaaDoor.Mo
structure Ev where
  kind : Int
  thread : Int
  op : Int
  n : Int
  pos : Int
  code : Int
  data : List Int
structure On where
  e : Ev
  c : Int
structure Hd where
  f : Int
  n : Int
  p : Int
  g : Bool
def hz : Hd := ⟨0, 0, 0, false⟩
def isZ (h : Hd) : Bool := decide (h.f = 0) && decide (h.n = 0) && decide (h.p = 0) && !h.g
structure Cx where
  cap : Int
  prod : Nat
  up : List (List Nat)
  ends : List Nat
  cnt : Int → Int → Int
  lim : Nat
structure St where
  taken : Int
  granted : Int
  pre : Int
  held : List Hd
  put : List Bool
  data : List Int
  gate : List Int
  saw : List Int
def least (gate : List Int) (l : List Nat) : Int := l.foldl (fun n c => min n (gate.getD c 0)) (gate.getD (l.headD 0) 0)
def limit (cx : Cx) (st : St) (k : Nat) : Int := if cx.up.getD k [] = [] then st.pre else least st.gate (cx.up.getD k [])
def space (cx : Cx) (st : St) : Int := min (max (cx.cap - st.granted + least st.gate cx.ends) 0) cx.cap
def run (l : List Bool) : Nat := (l.takeWhile id).length
def held (st : St) (t : Nat) : Hd := st.held.getD t hz
def takeC (cx : Cx) (st : St) (e : Ev) : Int :=
  if ¬ (0 ≤ e.thread ∧ e.thread < cx.prod) then 11
  else if isZ (held st e.thread.toNat) = false then 14
  else if e.n < 1 ∨ e.n > cx.cap then 13
  else if cx.cnt st.taken e.pos ≠ st.taken then 16 else 0
def grantC (cx : Cx) (st : St) (e : Ev) : Int :=
  if ¬ (0 ≤ e.thread ∧ e.thread < cx.prod) then 11
  else if (held st e.thread.toNat).n = 0 ∨ (held st e.thread.toNat).g = true then 14
  else if (held st e.thread.toNat).f + (held st e.thread.toNat).n - least st.gate cx.ends > cx.cap then 17 else 0
def putsC (cx : Cx) (st : St) (e : Ev) : Int :=
  if ¬ (0 ≤ e.thread ∧ e.thread < cx.prod) then 11
  else if (held st e.thread.toNat).g = false then 14
  else if e.n < 1 ∨ e.n > (held st e.thread.toNat).n - (held st e.thread.toNat).p then 13
  else if cx.cnt st.taken e.pos ≠ (held st e.thread.toNat).f + (held st e.thread.toNat).p then 18
  else if (e.data.length : Int) ≠ e.n then 19 else 0
def afterPut (h : Hd) (n : Int) : Hd := if h.p + n = h.n then hz else { h with p := h.p + n }
def isCons (cx : Cx) (t : Int) : Prop := (cx.prod : Int) ≤ t ∧ t < cx.prod + cx.up.length
instance (cx : Cx) (t : Int) : Decidable (isCons cx t) := by unfold isCons; infer_instance
def cons (cx : Cx) (t : Int) : Nat := (t - cx.prod).toNat
def seenC (cx : Cx) (st : St) (e : Ev) : Int :=
  if ¬ isCons cx e.thread then 11
  else if cx.cnt st.taken e.pos < st.saw.getD (cons cx e.thread) 0 then 18
  else if cx.cnt st.taken e.pos > limit cx st (cons cx e.thread) then 17 else 0
def freeC (cx : Cx) (st : St) (e : Ev) : Int :=
  if ¬ isCons cx e.thread then 11
  else if cx.cnt st.taken e.pos ≤ st.gate.getD (cons cx e.thread) 0 ∨ cx.cnt st.taken e.pos > st.saw.getD (cons cx e.thread) 0 then 18 else 0
def code (cx : Cx) (st : St) (e : Ev) : Int :=
  if e.kind = 3 then takeC cx st e else if e.kind = 4 then grantC cx st e else if e.kind = 5 then putsC cx st e
  else if e.kind = 6 then seenC cx st e else if e.kind = 7 then freeC cx st e else if e.kind = 1 ∨ e.kind = 2 then 0 else 12
def taken (L : List On) : Int := L.foldl (fun n x => if x.e.kind = 3 then n + x.e.n else n) 0
def hstep (t : Int) (h : Hd) (x : On) : Hd :=
  if x.e.thread = t then
    if x.e.kind = 3 then ⟨x.c, x.e.n, 0, false⟩
    else if x.e.kind = 4 then { h with g := true }
    else if x.e.kind = 5 then afterPut h x.e.n
    else h
  else h
def holds (L : List On) (t : Int) : Hd := L.foldl (hstep t) hz
structure Wf (cx : Cx) (st : St) : Prop where
  t0 : 0 ≤ st.taken
  lp : (st.put.length : Int) = st.taken
  ld : (st.data.length : Int) = st.taken
  pf : st.pre = (run st.put : Int)
  lh : st.held.length = cx.prod
  hw : ∀ t < cx.prod, held st t = hz ∨ (1 ≤ (held st t).n ∧ (held st t).n ≤ cx.cap ∧ 0 ≤ (held st t).f ∧ (held st t).f + (held st t).n ≤ st.taken ∧ 0 ≤ (held st t).p ∧ (held st t).p < (held st t).n ∧ ∀ i : Nat, (held st t).f + (held st t).p ≤ i → (i : Int) < (held st t).f + (held st t).n → st.put.getD i true = false)
  hd : ∀ t < cx.prod, ∀ u < cx.prod, t ≠ u → held st t = hz ∨ held st u = hz ∨ (held st t).f + (held st t).n ≤ (held st u).f ∨ (held st u).f + (held st u).n ≤ (held st t).f
  lg : st.gate.length = cx.up.length
  ls : st.saw.length = cx.up.length
theorem run_app (l : List Bool) (n : Nat) : run (l ++ List.replicate n false) = run l := by
  unfold run
  induction l with
  | nil => cases n <;> simp [List.replicate_succ]
  | cons b l ih =>
    cases b with
    | false => simp
    | true => simpa using ih
theorem getD_app {α : Type} (l m : List α) (i : Nat) (d : α) (h : i < l.length) : (l ++ m).getD i d = l.getD i d := by
  simp only [List.getD_eq_getElem?_getD]
  rw [List.getElem?_append_left h]
end Go.Proofs.YtgibmlbdkijflaaDoor.Mo
set_option linter.unusedVariables false
set_option linter.unusedSimpArgs false
set_option maxRecDepth 100000
namespace Go.Proofs.YtgibmlbdkijflaaDoor.Mo
open Go.RowKit Go.Proofs.YtgibmlbdkijflaaDoorW.PrintWords Go.Proofs.YtgibmlbdkijflaaDoorW.PrintLast Go.Proofs.YtgibmlbdkijflaaDoorW.PrintMore
attribute [local go_sem] max2_int min2_int max_two min_two
structure Aside (p : Prop) : Prop where
  out : p
theorem i1 {i : Nat} (h : i < 4611686018427387904) : IntKind.i64.wrap ((i : Int) + 1) = ((i + 1 : Nat) : Int) := by
  rw [IntKind.wrap_i64]; omega
theorem w64 {x : Int} (h : -4611686018427387904 ≤ x ∧ x ≤ 4611686018427387904) : wrap64 x = x := by unfold wrap64; omega
theorem tn1 (m : Nat) : ((m : Int) + 1).toNat = m + 1 := by omega
theorem meas1 {m k : Nat} (h : m < k) : k - (m + 1) < k - m := by omega
theorem cell7 {w : World} {g : Nat} {c0 c1 c2 c3 c4 c5 c6 : Value} {t : TypeId} (h : w.heap[g]? = some (.cells #[c0, c1, c2, c3, c4, c5, c6] t (0, 0))) :
    w.cell? ⟨g, 0, none⟩ = some c0 ∧ w.cell? ⟨g, 1, none⟩ = some c1 ∧ w.cell? ⟨g, 2, none⟩ = some c2 ∧ w.cell? ⟨g, 3, none⟩ = some c3 ∧ w.cell? ⟨g, 4, none⟩ = some c4 ∧ w.cell? ⟨g, 5, none⟩ = some c5 ∧ w.cell? ⟨g, 6, none⟩ = some c6 := by
  refine ⟨?_, ?_, ?_, ?_, ?_, ?_, ?_⟩ <;> simp [World.cell?, h]
theorem num_at {w : World} {A : Option Addr} {l : List Int} (h : (Kd.int .i64).C w A l.length l) (j : Nat) (hj : j < l.length) : ∃ ad, A = some ad ∧ w.cell? (ad.add j) = some (.int .i64 l[j]) := by
  obtain ⟨_, _, h3⟩ := h
  obtain ⟨ad, e, hr⟩ := h3 (by omega)
  obtain ⟨cs, g1, g2, g3⟩ := hr j _ (List.getElem?_eq_getElem hj)
  refine ⟨ad, e, ?_⟩
  have h5 := g3 0 (.int .i64 l[j]) (by rw [show cs = [.int .i64 l[j]] from g2]; rfl)
  have h6 : (Kd.int .i64).sz = 1 := rfl
  rw [h6, Nat.mul_one, Nat.add_zero] at h5
  exact h5
end Go.Proofs.YtgibmlbdkijflaaDoor.Mo
set_option linter.unusedVariables false
set_option linter.unusedSimpArgs false
set_option maxRecDepth 100000
namespace Go.Proofs.YtgibmlbdkijflaaDoor.Mo
open Go.RowKit Go.Proofs.YtgibmlbdkijflaaDoorW.PrintWords Go.Proofs.YtgibmlbdkijflaaDoorW.PrintLast Go.Proofs.YtgibmlbdkijflaaDoorW.PrintMore
attribute [local go_sem] max2_int min2_int max_two min_two
end Go.Proofs.YtgibmlbdkijflaaDoor.Mo
set_option linter.unusedVariables false
set_option linter.unusedSimpArgs false
set_option maxRecDepth 100000
namespace Go.Proofs.YtgibmlbdkijflaaDoor.Mo
open Go.RowKit Go.Proofs.YtgibmlbdkijflaaDoorW.PrintWords Go.Proofs.YtgibmlbdkijflaaDoorW.PrintLast Go.Proofs.YtgibmlbdkijflaaDoorW.PrintMore
end Go.Proofs.YtgibmlbdkijflaaDoor.Mo
set_option linter.unusedVariables false
set_option linter.unusedSimpArgs false
namespace Go.Proofs.YtgibmlbdkijflaaDoor.Mo
open Go.RowKit Go.Proofs.YtgibmlbdkijflaaDoorW.PrintWords QWi
def U64 (a : Int) : Prop := 0 ≤ a ∧ a < 18446744073709551616
def gapW (n a b : Int) : Int := (wide_Gap.f n a b).getD 0
def plusW (n a m : Int) : Int := (wide_Plus.f n a m).getD 0
def cutW (n a : Int) : Int := (sakiaref01_Cut.f n a).getD 0
theorem plus_f (n a m : Int) : wide_Plus.f n a m = some (plusW n a m) := by
  unfold plusW wide_Plus.f wide_Of_uint32.f wide_Add_uint32.f wide_Up_uint32.f wide_Add_uint64.f
  simp only [Option.bind_some]
  repeat' split
  all_goals rfl
theorem cut_f (n a : Int) : sakiaref01_Cut.f n a = some (cutW n a) := by
  unfold cutW sakiaref01_Cut.f
  repeat' split
  all_goals rfl
theorem u64w (x : Int) : IntKind.u64.wrap x = x % 18446744073709551616 := by rw [IntKind.wrap_u64]
theorem tm {x : Int} (h : 0 ≤ x) (y : Int) : Int.tmod x y = x % y := Int.tmod_eq_emod_of_nonneg h
theorem rplus_f {n a m : Int} (ha : U64 a) : sakiaref01_Plus.f n a m = some (plusW n a m) := by
  obtain ⟨a0, a1⟩ := ha
  unfold plusW sakiaref01_Plus.f sakiaref01_Cut.f wide_Plus.f wide_Of_uint32.f wide_Add_uint32.f wide_Up_uint32.f wide_Add_uint64.f
  simp only [Option.bind_some, u64w]
  by_cases h32 : n = 32
  · rw [if_pos h32, if_pos h32]
    simp only [Option.bind_some, Option.getD_some]
    rw [tm (by omega)]
    congr 1
    omega
  · rw [if_neg h32, if_neg h32]
    by_cases h64 : n = 64
    · rw [if_pos h64]
      rfl
    · rw [if_neg h64]
      rfl
theorem start_f (v n c p s : Int) (up : List (List Int)) : sakiaref10_Start.f v n c p s up = some (cutW n s) := by
  unfold sakiaref10_Start.f
  rw [cut_f]; rfl
theorem cut_u {n s : Int} (h : U64 s) : U64 (cutW n s) := by
  obtain ⟨h0, h1⟩ := h
  unfold cutW sakiaref01_Cut.f U64
  split
  · rw [Option.getD_some, tm h0]; omega
  split
  · exact ⟨h0, h1⟩
  · decide
theorem plus_u {n a m : Int} (h : U64 a) : U64 (plusW n a m) := by
  obtain ⟨h0, h1⟩ := h
  unfold plusW wide_Plus.f wide_Of_uint32.f wide_Add_uint32.f wide_Up_uint32.f wide_Add_uint64.f U64
  simp only [Option.bind_some, u64w]
  split
  · simp only [Option.bind_some, Option.getD_some]; omega
  split
  · simp only [Option.bind_some, Option.getD_some]; omega
  · decide
theorem wrapE (x : Int) : IntKind.i64.wrap x = wrap64 x := by rw [IntKind.wrap_i64]; unfold wrap64; rfl
def cntW (n s t pos : Int) : Int := wrap64 (t + gapW n pos (plusW n (cutW n s) t))
theorem drawn_below {w w' : World} (h : Drawn0 w w') : Below w.heap.size w w' := by
  obtain ⟨n, rfl⟩ := h
  exact pw_below_drewN (Below.refl _ _) n
theorem start_c {w : World} {v n c p s : Int} {A : Option Addr} {C : Nat} {up : List (List Int)} (hu : Kd.C (Kd.slice 3 (Kd.int .i64)) w A up.length up) (hc : up.length ≤ C) : Calls Tryd.prog 113 #[.agg #[.int .i64 v, .int .i64 n, .int .i64 c, .int .i64 p, .int .u64 s, .slice A up.length C]] w fun e w' => e = .returned (.int .u64 (cutW n s)) ∧ Below w.heap.size w w' :=
  (sakiaref10_Start.calls v n c p s A C up _ w hu hc (start_f _ _ _ _ _ _)).mono fun e w' h => h
theorem rplus_c {n a m : Int} (ha : U64 a) (w : World) : Calls Tryd.prog 112 #[.int .i64 n, .int .u64 a, .int .i64 m] w fun e w' => e = .returned (.int .u64 (plusW n a m)) ∧ Below w.heap.size w w' :=
  (sakiaref01_Plus.calls n a m _ w (rplus_f ha)).mono fun e w' ⟨h, d⟩ => ⟨h, drawn_below d⟩
end Go.Proofs.YtgibmlbdkijflaaDoor.Mo
set_option linter.unusedVariables false
set_option linter.unusedSimpArgs false
set_option maxRecDepth 100000
namespace Go.Proofs.YtgibmlbdkijflaaDoor.Mo
open Go.RowKit Go.Proofs.YtgibmlbdkijflaaDoorW.PrintWords Go.Proofs.YtgibmlbdkijflaaDoorW.PrintLast Go.Proofs.YtgibmlbdkijflaaDoorW.PrintMore
open Graph (checkG Fine Gv endsI ref_ends fine_of)
attribute [local go_sem] max2_int min2_int max_two min_two
def ints (l : List Nat) : List Int := l.map fun (c : Nat) => (c : Int)
theorem run_le (l : List Bool) : run l ≤ l.length := by
  unfold run
  exact (List.takeWhile_sublist _).length_le
theorem ints_len (l : List Nat) : (ints l).length = l.length := by unfold ints; rw [List.length_map]
end Go.Proofs.YtgibmlbdkijflaaDoor.Mo
set_option linter.unusedVariables false
set_option linter.unusedSimpArgs false
set_option maxRecDepth 100000
namespace Go.Proofs.YtgibmlbdkijflaaDoor.Mo
open Go.RowKit Go.Proofs.YtgibmlbdkijflaaDoorW.PrintWords Go.Proofs.YtgibmlbdkijflaaDoorW.PrintLast Go.Proofs.YtgibmlbdkijflaaDoorW.PrintMore
theorem two {w : World} (a b : Obj) : ((w.alloc a).alloc b).heap[w.heap.size]? = some a ∧ ((w.alloc a).alloc b).heap[w.heap.size + 1]? = some b ∧ Below w.heap.size w ((w.alloc a).alloc b) := by
  have h1 := heap_alloc_new w a
  have h2 := heap_alloc_new (w.alloc a) b
  rw [World.size_alloc] at h2
  exact ⟨blk_alloc h1 _, h2, below_alloc (below_alloc (Below.refl _ _) _) _⟩
end Go.Proofs.YtgibmlbdkijflaaDoor.Mo
set_option linter.unusedVariables false
set_option linter.unusedSimpArgs false
set_option maxRecDepth 100000
namespace Go.Proofs.YtgibmlbdkijflaaDoor.Mo
open Go.RowKit Go.Proofs.YtgibmlbdkijflaaDoorW.PrintWords Go.Proofs.YtgibmlbdkijflaaDoorW.PrintLast Go.Proofs.YtgibmlbdkijflaaDoorW.PrintMore
def I64 (t : Int) : Prop := -9223372036854775808 ≤ t ∧ t < 9223372036854775808
end Go.Proofs.YtgibmlbdkijflaaDoor.Mo
