/- The program's model: what only reads it. -/
import Derived.Test.YtgibmlbdkijflaaDoorMoDoc
import Derived.Test.YtgibmlbdkijflaaDoorWZeros
import Derived.Test.YtgibmlbdkijflaaDoorWShare
set_option linter.unusedVariables false
set_option linter.unusedSimpArgs false
set_option maxRecDepth 100000
namespace Go.Proofs.YtgibmlbdkijflaaDoor.Mo
open Go.RowKit Go.Proofs.YtgibmlbdkijflaaDoorW.PrintWords Go.Proofs.YtgibmlbdkijflaaDoorW.PrintLast Go.Proofs.YtgibmlbdkijflaaDoorW.PrintMore
attribute [local go_sem] max2_int min2_int max_two min_two
structure Mk where
  vr : Int
  wd : Int
  cp : Int
  pr : Int
  sa : Int
  s0 : Int
  U : Option Addr
  un : Nat
  uc : Nat
  E : Option Addr
  en : Nat
  ec : Nat
  H : Option Addr
  hn : Nat
  hc : Nat
  P : Option Addr
  pn : Nat
  pc : Nat
  D : Option Addr
  dn : Nat
  dc : Nat
  G : Option Addr
  gn : Nat
  gc : Nat
  S : Option Addr
  sn : Nat
  sc : Nat
def leastP (gate : List Int) (l : List Nat) (i : Nat) : Int := (l.take i).foldl (fun n c => min n (gate.getD c 0)) (gate.getD (l.headD 0) 0)
theorem leastP_succ (gate : List Int) (l : List Nat) (i : Nat) (h : i < l.length) : leastP gate l (i + 1) = min (leastP gate l i) (gate.getD l[i] 0) := by
  unfold leastP
  rw [List.take_succ_eq_append_getElem h, List.foldl_append]
  rfl
theorem leastP_all (gate : List Int) (l : List Nat) : leastP gate l l.length = least gate l := by
  unfold leastP least
  rw [List.take_length]
theorem nat_at {w : World} {A : Option Addr} {l : List Nat} (h : (Kd.int .i64).C w A (ints l).length (ints l)) (j : Nat) (hj : j < l.length) : ∃ ad, A = some ad ∧ w.cell? (ad.add j) = some (.int .i64 (l[j] : Int)) := by
  obtain ⟨ad, e, hx⟩ := num_at h j (by rw [ints_len]; exact hj)
  refine ⟨ad, e, ?_⟩
  rw [hx]
  simp [ints]
theorem plus_c {n a m : Int} (w : World) : Calls Tryd.prog 110 #[.int .i64 n, .int .u64 a, .int .i64 m] w fun e w' => e = .returned (.int .u64 (plusW n a m)) ∧ Below w.heap.size w w' :=
  (QWi.wide_Plus.calls n a m _ w (plus_f n a m)).mono fun e w' ⟨h, d⟩ => ⟨h, drawn_below d⟩
end Go.Proofs.YtgibmlbdkijflaaDoor.Mo
set_option linter.unusedVariables false
set_option linter.unusedSimpArgs false
namespace Go.Proofs.YtgibmlbdkijflaaDoor.Mo
open Go.RowKit
theorem run_ge : ∀ (l : List Bool) (m : Nat), (∀ i, i < m → l.getD i false = true) → m ≤ run l
  | [], m, h => by
    cases m with
    | zero => exact Nat.zero_le _
    | succ m => have := h 0 (by omega); simp at this
  | b :: l, m, h => by
    cases m with
    | zero => exact Nat.zero_le _
    | succ m =>
      have h0 := h 0 (by omega)
      simp at h0
      subst h0
      have e : run (true :: l) = run l + 1 := by simp [run]
      have := run_ge l m (fun i hi => by have := h (i + 1) (by omega); simpa using this)
      omega
structure Lo (cx : Cx) (st : St) : Prop where
  g0 : ∀ k, 0 ≤ st.gate.getD k 0
  gs : ∀ k, st.gate.getD k 0 ≤ st.saw.getD k 0
  sp : ∀ k, st.saw.getD k 0 ≤ st.pre
  r0 : 0 ≤ st.granted
  rt : st.granted ≤ st.taken
theorem Lo.pre {cx : Cx} {st : St} (w : Wf cx st) : st.pre ≤ st.taken := by
  have h1 := w.pf
  have h2 := w.lp
  have h3 := run_le st.put
  omega
theorem least_le (gate : List Int) (l : List Nat) (hl : l ≠ []) : ∃ c ∈ l, least gate l ≤ gate.getD c 0 := by
  obtain ⟨x, r, rfl⟩ : ∃ x r, l = x :: r := by
    cases l with
    | nil => exact absurd rfl hl
    | cons x r => exact ⟨x, r, rfl⟩
  refine ⟨x, by simp, ?_⟩
  unfold least
  simp only [List.headD_cons, List.foldl_cons, Int.min_self]
  have hm : ∀ (r : List Nat) (n : Int), r.foldl (fun n c => min n (gate.getD c 0)) n ≤ n := by
    intro r
    induction r with
    | nil => intro n; exact Int.le_refl _
    | cons y r ih =>
      intro n
      simp only [List.foldl_cons]
      have := ih (min n (gate.getD y 0))
      omega
  exact hm r _
end Go.Proofs.YtgibmlbdkijflaaDoor.Mo
set_option linter.unusedVariables false
set_option linter.unusedSimpArgs false
set_option maxRecDepth 100000
namespace Go.Proofs.YtgibmlbdkijflaaDoor.Mo
open Go.RowKit Go.Proofs.YtgibmlbdkijflaaDoorW.PrintWords Go.Proofs.YtgibmlbdkijflaaDoorW.PrintLast Go.Proofs.YtgibmlbdkijflaaDoorW.PrintMore
def hcl (h : Hd) : List Value := [.int .i64 h.f, .int .i64 h.n, .int .i64 h.p, .bool h.g]
def Own (k : Mk) (B q : Nat) : Prop := q = B ∨ some q = (Value.slice k.H k.hn k.hc).ownBlock ∨ some q = (Value.slice k.P k.pn k.pc).ownBlock ∨ some q = (Value.slice k.D k.dn k.dc).ownBlock ∨ some q = (Value.slice k.G k.gn k.gc).ownBlock ∨ some q = (Value.slice k.S k.sn k.sc).ownBlock
theorem Own.no {k : Mk} {B q : Nat} (h : ¬ Own k B q) : q ≠ B ∧ some q ≠ (Value.slice k.H k.hn k.hc).ownBlock ∧ some q ≠ (Value.slice k.P k.pn k.pc).ownBlock ∧ some q ≠ (Value.slice k.D k.dn k.dc).ownBlock ∧ some q ≠ (Value.slice k.G k.gn k.gc).ownBlock ∧ some q ≠ (Value.slice k.S k.sn k.sc).ownBlock := by
  unfold Own at h
  simp only [not_or] at h
  exact h
def New (w : World) (a b : Value) : Prop := b.ownBlock = a.ownBlock ∨ ∃ q, b.ownBlock = some q ∧ w.heap.size ≤ q
theorem New.lt {w : World} {a b : Value} (h : New w a b) {q : Nat} (hb : b.ownBlock = some q) (hq : q < w.heap.size) : a.ownBlock = some q := by
  rcases h with h | ⟨r, h1, h2⟩
  · rw [← h]; exact hb
  · rw [h1] at hb; injection hb with hb; omega
theorem New.own {w : World} {a b : Value} (h : New w a b) {q : Nat} (hb : some q = b.ownBlock) : some q = a.ownBlock ∨ w.heap.size ≤ q := by
  rcases h with h | ⟨r, h1, h2⟩
  · rw [← h]; exact .inl hb
  · rw [h1] at hb; injection hb with hb; exact .inr (by omega)
end Go.Proofs.YtgibmlbdkijflaaDoor.Mo
set_option linter.unusedVariables false
set_option linter.unusedSimpArgs false
set_option maxRecDepth 100000
namespace Go.Proofs.YtgibmlbdkijflaaDoor.Mo
open Go.RowKit Go.Proofs.YtgibmlbdkijflaaDoorW.PrintWords Go.Proofs.YtgibmlbdkijflaaDoorW.PrintLast Go.Proofs.YtgibmlbdkijflaaDoorW.PrintMore
end Go.Proofs.YtgibmlbdkijflaaDoor.Mo
set_option linter.unusedVariables false
set_option linter.unusedSimpArgs false
set_option maxRecDepth 100000
namespace Go.Proofs.YtgibmlbdkijflaaDoor.Mo
open Go.RowKit Go.Proofs.YtgibmlbdkijflaaDoorW.PrintWords Go.Proofs.YtgibmlbdkijflaaDoorW.PrintLast Go.Proofs.YtgibmlbdkijflaaDoorW.PrintMore
theorem below_low {w0 w W : World} (b : Below w.heap.size w W) (h : Below w0.heap.size w0 w) : Below w0.heap.size w0 W := h.trans (b.mono h.size)
end Go.Proofs.YtgibmlbdkijflaaDoor.Mo
