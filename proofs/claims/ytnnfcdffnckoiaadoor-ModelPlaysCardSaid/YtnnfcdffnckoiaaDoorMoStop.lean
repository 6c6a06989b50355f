/- The walk of sakialaw29.ModelStops: for every configuration and events the call returns true, and what was in memory stays. Asked: the library's table lies as laid. -/
import Derived.Test.YtnnfcdffnckoiaaDoorMoNew
set_option linter.unusedVariables false
set_option linter.unusedSimpArgs false
set_option maxRecDepth 100000
namespace Go.Proofs.YtnnfcdffnckoiaaDoor.Mo
open Go.RowKit Go.Proofs.YtnnfcdffnckoiaaDoorW.PrintWords Go.Proofs.YtnnfcdffnckoiaaDoorW.PrintLast Go.Proofs.YtnnfcdffnckoiaaDoorW.PrintMore
open Graph (checkG Fine Gv endsI ref_ends fine_of ends_some Tabled ends_okR)
open QGc (checkC boundB)
open QCf (S44 k44)
/-- A model of the document whose configuration is this one. -/
def mk0 (v wd cp pr sa : Int) (A : Option Addr) (C : Nat) (up : List (List Int)) (A' : Option Addr) (C' : Nat) (L : List On) : Mp := { vr := v, wd := wd, cp := cp, pr := pr, sa := sa, U := A, un := up.length, uc := C, A := A', C := C', L := L }
/-- All events together, as the document goes through them: where it stands. -/
def StopAt (cx : Cx) (l : List Ev) (i : Nat) (at_ code_ : Int) (n : Nat) : Prop := Upto cx (st0 cx) l n ∧ ((i = n ∧ at_ = l.length ∧ code_ = 0) ∨ (i = n + 1 ∧ at_ = n ∧ code_ ≠ 0 ∧ ∃ h : n < l.length, code_ = code cx (stAt cx (st0 cx) l n) l[n]))
theorem RS.far {base : Nat} {w : World} {m : Mp} {up : List (List Int)} {cx : Cx} {st : St} {i : Nat} (h : RS base w m up cx st i) {g t : Nat} {cs : Array Value} (hb : w.heap[g]? = some (.cells cs t (0, 0))) (ht : 102 ≠ t) (hg : base ≤ g) (j : Nat) (u : Value) : RS base (w.setCell ⟨g, j, none⟩ u) m up cx st i := { h with r := h.r.far hb ht hg j u }
/-- The box of the document's model is written anew. -/
theorem box7 {base : Nat} {w0 w : World} {X : Nat} {m : Mp} {up : List (List Int)} {cx : Cx} {st : St} {i : Nat} {a0 a1 a2 a3 a4 a5 a6 : Value} (h : RS base w m up cx st i) (hx : w.heap[X]? = some (.cells #[a0, a1, a2, a3, a4, a5, a6] 68 (0, 0))) (hb : Below w0.heap.size w0 w) (hX : w0.heap.size ≤ X) (hbase : base ≤ X) (v0 v1 v2 v3 v4 v5 v6 : Value) :
    ∃ W, W = (((((((w.setCell ⟨X, 0, none⟩ v0).setCell ⟨X, 1, none⟩ v1).setCell ⟨X, 2, none⟩ v2).setCell ⟨X, 3, none⟩ v3).setCell ⟨X, 4, none⟩ v4).setCell ⟨X, 5, none⟩ v5).setCell ⟨X, 6, none⟩ v6) ∧ RS base W m up cx st i ∧ W.heap[X]? = some (.cells #[v0, v1, v2, v3, v4, v5, v6] 68 (0, 0)) ∧ Below w0.heap.size w0 W := by
  refine ⟨_, rfl, ?_, (set7 v0 v1 v2 v3 v4 v5 v6 hb hX hx).1, (set7 v0 v1 v2 v3 v4 v5 v6 hb hX hx).2⟩
  have k0 := blk_put (cs' := #[v0, a1, a2, a3, a4, a5, a6]) hx 0 v0 rfl
  have k1 := blk_put (cs' := #[v0, v1, a2, a3, a4, a5, a6]) k0 1 v1 rfl
  have k2 := blk_put (cs' := #[v0, v1, v2, a3, a4, a5, a6]) k1 2 v2 rfl
  have k3 := blk_put (cs' := #[v0, v1, v2, v3, a4, a5, a6]) k2 3 v3 rfl
  have k4 := blk_put (cs' := #[v0, v1, v2, v3, v4, a5, a6]) k3 4 v4 rfl
  have k5 := blk_put (cs' := #[v0, v1, v2, v3, v4, v5, a6]) k4 5 v5 rfl
  exact ((((((h.far hx (by decide) hbase 0 v0).far k0 (by decide) hbase 1 v1).far k1 (by decide) hbase 2 v2).far k2 (by decide) hbase 3 v3).far k3 (by decide) hbase 4 v4).far k4 (by decide) hbase 5 v5).far k5 (by decide) hbase 6 v6
/-- While the document goes through all events. -/
structure LpS (w w6 wr : World) (X : Nat) (v wd cp pr sa : Int) (A : Option Addr) (C : Nat) (up : List (List Int)) (cx : Cx) (l : List Ev) (i n : Nat) (at_ code_ : Int) : Prop where
  s : StopAt cx l i at_ code_ n
  ln : n ≤ l.length
  r : ∃ A' C' L', RS w.heap.size wr (mk0 v wd cp pr sa A C up A' C' L') up cx (stAt cx (st0 cx) l n) i ∧ wr.heap[X]? = some (.cells #[.int .i64 v, .int .i64 wd, .int .i64 cp, .int .i64 pr, .int .u64 sa, .slice A up.length C, .slice A' L'.length C'] 68 (0, 0))
  b : Below w6.heap.size w6 wr
theorem LpS.le {w w6 wr : World} {X : Nat} {v wd cp pr sa : Int} {A : Option Addr} {C : Nat} {up : List (List Int)} {cx : Cx} {l : List Ev} {i n : Nat} {at_ code_ : Int} (h : LpS w w6 wr X v wd cp pr sa A C up cx l i n at_ code_) : i ≤ l.length := by
  have := h.ln
  rcases h.s.2 with ⟨h1, _⟩ | ⟨h1, _, _, h2, _⟩ <;> omega
theorem LpS.go {w w6 wr : World} {X : Nat} {v wd cp pr sa : Int} {A : Option Addr} {C : Nat} {up : List (List Int)} {cx : Cx} {l : List Ev} {i n : Nat} {at_ code_ : Int} (h : LpS w w6 wr X v wd cp pr sa A C up cx l i n at_ code_) (hs : code_ = 0) : i = n ∧ at_ = l.length := by
  rcases h.s.2 with ⟨h1, h2, h3⟩ | ⟨h1, h2, h3, _⟩
  · exact ⟨h1, h2⟩
  · exact absurd hs h3
/-- An event of a row, read. -/
def EvAt (w : World) (ad : Addr) (i : Nat) (e : Ev) (Bd : Option Addr) (bc : Nat) : Prop := w.cell? (ad.add (i * 7)) = some (.int .i64 e.kind) ∧ w.cell? ⟨(ad.add (i * 7)).block, (ad.add (i * 7)).off + 1, none⟩ = some (.int .i64 e.thread) ∧ w.cell? ⟨(ad.add (i * 7)).block, (ad.add (i * 7)).off + 2, none⟩ = some (.int .i64 e.op) ∧ w.cell? ⟨(ad.add (i * 7)).block, (ad.add (i * 7)).off + 3, none⟩ = some (.int .i64 e.n) ∧ w.cell? ⟨(ad.add (i * 7)).block, (ad.add (i * 7)).off + 4, none⟩ = some (.int .u64 e.pos) ∧ w.cell? ⟨(ad.add (i * 7)).block, (ad.add (i * 7)).off + 5, none⟩ = some (.int .i64 e.code) ∧ w.cell? ⟨(ad.add (i * 7)).block, (ad.add (i * 7)).off + 6, none⟩ = some (.slice Bd e.data.length bc)
theorem EvAt.below {w w' : World} {ad : Addr} {i : Nat} {e : Ev} {Bd : Option Addr} {bc : Nat} (h : EvAt w ad i e Bd bc) (b : Below w.heap.size w w') : EvAt w' ad i e Bd bc := by
  obtain ⟨c0, c1, c2, c3, c4, c5, c6⟩ := h
  have go : ∀ {p : Addr} {v : Value}, w.cell? p = some v → w'.cell? p = some v := fun hp => (b.cell (World.block_lt_of_cell? _ _ hp)).trans hp
  exact ⟨go c0, go c1, go c2, go c3, go c4, go c5, go c6⟩
structure RP0 (base : Nat) (w W : World) (v wd cp pr sa : Int) (A : Option Addr) (C : Nat) (up : List (List Int)) (cx : Cx) (st : St) (e : Ev) (i : Nat) (r : Ending) : Prop where mk ::
  out : ∃ A2 C2 L2, r = .returned (.tuple #[.agg #[.int .i64 v, .int .i64 wd, .int .i64 cp, .int .i64 pr, .int .u64 sa, .slice A up.length C, .slice A2 L2.length C2], .int .i64 (code cx st e)]) ∧ RS base W (mk0 v wd cp pr sa A C up A2 C2 L2) up cx (step cx st e) (i + 1) ∧ Below w.heap.size w W
theorem rapply0 (base : Nat) (w : World) (v wd cp pr sa : Int) (A : Option Addr) (C : Nat) (up : List (List Int)) (A' : Option Addr) (C' : Nat) (L' : List On) (cx : Cx) (st : St) (i : Nat) (h : RS base w (mk0 v wd cp pr sa A C up A' C' L') up cx st i) (hi : i < 200) (hb : base ≤ w.heap.size) (e : Ev) (Bd : Option Addr) (bc : Nat) (he : U64 e.pos) (ht : I64 e.thread) (hd : e.data.length ≤ 100000) (hdc : e.data.length ≤ bc) (hdf : Kd.F (Kd.int .i64) w (fun q => q < base) Bd e.data.length e.data) :
    Calls Tryd.prog 35 #[.agg #[.int .i64 v, .int .i64 wd, .int .i64 cp, .int .i64 pr, .int .u64 sa, .slice A up.length C, .slice A' L'.length C'], .agg #[.int .i64 e.kind, .int .i64 e.thread, .int .i64 e.op, .int .i64 e.n, .int .u64 e.pos, .int .i64 e.code, .slice Bd e.data.length bc]] w fun r W => RP0 base w W v wd cp pr sa A C up cx st e i r :=
  (rapply base w (mk0 v wd cp pr sa A C up A' C' L') up cx st i h hi hb e Bd bc he ht hd hdc hdf).mono fun r W ⟨⟨A2, C2, n2, hr, ⟨L2, hn, hs⟩, hB⟩⟩ => by
    subst hn
    exact ⟨⟨A2, C2, L2, hr, hs, hB⟩⟩
end Go.Proofs.YtnnfcdffnckoiaaDoor.Mo
