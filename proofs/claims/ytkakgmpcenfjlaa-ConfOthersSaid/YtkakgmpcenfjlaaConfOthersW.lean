/- ConfOthers, walked. -/
import Derived.Test.YtkakgmpcenfjlaaConfOthersP
import Derived.Test.YtkakgmpcenfjlaaQCfx9
import Derived.Test.YtkakgmpcenfjlaaLive10
import Derived.Deep.RegionHeld3
import Derived.LoopTactic
set_option linter.unusedVariables false
set_option linter.unusedSimpArgs false
set_option maxRecDepth 100000
namespace Go.Proofs.Ytkakgmpcenfjlaa.QCf
open Go.RowKit Go.Proofs.YtkakgmpcenfjlaaW.PrintWords Go.Proofs.YtkakgmpcenfjlaaW.PrintLast Go.Proofs.YtkakgmpcenfjlaaW.PrintMore Go.Proofs.Ytkakgmpcenfjlaa.Graph Go.Proofs.Ytkakgmpcenfjlaa.QGc
theorem sameX (x : S25) (A B : Option Addr) (C D : Nat) (W : World) (hs : Sm x.f5) (h1 : Kd.C (Kd.slice 3 (Kd.int .i64)) W A x.f5.length x.f5) (h2 : x.f5.length ≤ C) (h3 : Kd.C (Kd.slice 3 (Kd.int .i64)) W B x.f5.length x.f5) (h4 : x.f5.length ≤ D) :
    Calls Try.prog 49 #[.agg #[.int .i64 x.f0, .int .i64 x.f1, .int .i64 x.f2, .int .i64 x.f3, .int .u64 x.f4, .slice A x.f5.length C], .agg #[.int .i64 x.f0, .int .i64 x.f1, .int .i64 x.f2, .int .i64 x.f3, .int .u64 x.f4, .slice B x.f5.length D]] W fun e w' => e = .returned (.bool true) ∧ Below W.heap.size W w' :=
  sakiaref10_Same.calls 1200 _ _ _ _ _ A C x.f5 _ _ _ _ _ B D x.f5 true W h1 h2 h3 h4 (rsame_refl x hs 1200 (Nat.le_refl _))
theorem checkX (x : S25) (A : Option Addr) (C : Nat) (W : World) (hs : Sm x.f5) (h1 : Kd.C (Kd.slice 3 (Kd.int .i64)) W A x.f5.length x.f5) (h2 : x.f5.length ≤ C) (h0 : checkC x.f0 x.f1 x.f2 x.f3 x.f5 = 0) :
    Calls Try.prog 50 #[.agg #[.int .i64 x.f0, .int .i64 x.f1, .int .i64 x.f2, .int .i64 x.f3, .int .u64 x.f4, .slice A x.f5.length C]] W fun e w' => e = .returned (.int .i64 0) ∧ Below W.heap.size W w' := by
  have h := confCheck x.f0 x.f1 x.f2 x.f3 x.f4 A C x.f5 W hs h1 h2
  rw [h0] at h
  exact h
theorem alikeX (v w c p s : Int) (up : List (List Int)) (x : S25) (B A : Option Addr) (D C : Nat) (W : World) (hs : Sm up) (h1 : Kd.C (Kd.slice 3 (Kd.int .i64)) W B up.length up) (h2 : up.length ≤ D) (h3 : Kd.C (Kd.slice 3 (Kd.int .i64)) W A x.f5.length x.f5) (h4 : x.f5.length ≤ C) (hs0 : 0 ≤ s)
    (e2 : x.f2 = c) (e3 : x.f3 = p) (e4 : x.f4 = cutN 32 s) (e5 : x.f5 = up) :
    Calls Try.prog 31 #[.agg #[.int .i64 v, .int .i64 w, .int .i64 c, .int .i64 p, .int .u64 s, .slice B up.length D], .agg #[.int .i64 x.f0, .int .i64 x.f1, .int .i64 x.f2, .int .i64 x.f3, .int .u64 x.f4, .slice A x.f5.length C]] W fun e w' => e = .returned (.bool true) ∧ Below W.heap.size W w' := by
  have hal : alikeC c p s up x.f2 x.f3 x.f4 x.f5 = true := by
    unfold alikeC
    rw [e2, e3, e4, e5]
    have : s % 4294967296 = cutN 32 s % 4294967296 := by show s % 4294967296 = s % 4294967296 % 4294967296; omega
    simp [this]
  exact conf_Alike.calls 1300 _ _ _ _ _ B D up _ _ _ _ _ A C x.f5 true W h1 h2 h3 h4 (by rw [alike_ok hs 1300 (Nat.le_refl _) hs0 (by rw [e4]; show 0 ≤ s % 4294967296; omega), hal])
/-- What stands while the law goes on: its own copy of the configuration, and both rows. -/
structure WL (W w : World) (g : Nat) (v w_ c p s : Int) (A : Option Addr) (C : Nat) (up : List (List Int)) (A1 A2 : Option Addr) (l : List S25) : Prop where
  B : Below W.heap.size W w
  bx : w.heap[g]? = some (.cells #[.int .i64 v, .int .i64 w_, .int .i64 c, .int .i64 p, .int .u64 s, .slice A up.length C] 25 (0, 0))
  u : Kd.C (Kd.slice 3 (Kd.int .i64)) w A up.length up
  c1 : Kd.C k25 w A1 l.length l
  c2 : Kd.C k25 w A2 l.length l
theorem WL.step {W w w' : World} {g : Nat} {v w_ c p s : Int} {A : Option Addr} {C : Nat} {up : List (List Int)} {A1 A2 : Option Addr} {l : List S25} (h : WL W w g v w_ c p s A C up A1 A2 l) (b : Below w.heap.size w w') : WL W w' g v w_ c p s A C up A1 A2 l :=
  ⟨h.B.trans (b.mono h.B.size), (b.block g (Array.getElem?_eq_some_iff.1 h.bx).1).trans h.bx, Kd.C_below h.u b, Kd.C_below h.c1 b, Kd.C_below h.c2 b⟩
/-- And of one of them, from both rows. -/
structure XL (W w : World) (g : Nat) (v w_ c p s : Int) (A : Option Addr) (C : Nat) (up : List (List Int)) (A1 A2 : Option Addr) (l : List S25) (x : S25) (U1 U2 : Option Addr) : Prop where
  wl : WL W w g v w_ c p s A C up A1 A2 l
  u1 : Kd.C (Kd.slice 3 (Kd.int .i64)) w U1 x.f5.length x.f5
  u2 : Kd.C (Kd.slice 3 (Kd.int .i64)) w U2 x.f5.length x.f5
theorem XL.step {W w w' : World} {g : Nat} {v w_ c p s : Int} {A : Option Addr} {C : Nat} {up : List (List Int)} {A1 A2 : Option Addr} {l : List S25} {x : S25} {U1 U2 : Option Addr} (h : XL W w g v w_ c p s A C up A1 A2 l x U1 U2) (b : Below w.heap.size w w') : XL W w' g v w_ c p s A C up A1 A2 l x U1 U2 :=
  ⟨h.wl.step b, Kd.C_below h.u1 b, Kd.C_below h.u2 b⟩
theorem keepX {W w_ : World} {g i : Nat} {v w c p s : Int} {A : Option Addr} {C : Nat} {up : List (List Int)} {A1 A2 : Option Addr} {l : List S25} {x : S25} {U1 U2 : Option Addr} {D1 D2 : Nat} {ad1 ad2 : Addr} {w1 : World} (b : Below w_.heap.size w_ w1) (h : w_.cell? (ad1.add (i * 6)) = some (.int .i64 x.f0) ∧ w_.cell? ⟨(ad1.add (i * 6)).block, (ad1.add (i * 6)).off + 1, none⟩ = some (.int .i64 x.f1) ∧ w_.cell? ⟨(ad1.add (i * 6)).block, (ad1.add (i * 6)).off + 2, none⟩ = some (.int .i64 x.f2) ∧ w_.cell? ⟨(ad1.add (i * 6)).block, (ad1.add (i * 6)).off + 3, none⟩ = some (.int .i64 x.f3) ∧ w_.cell? ⟨(ad1.add (i * 6)).block, (ad1.add (i * 6)).off + 4, none⟩ = some (.int .u64 x.f4) ∧ w_.cell? ⟨(ad1.add (i * 6)).block, (ad1.add (i * 6)).off + 5, none⟩ = some (.slice U1 x.f5.length D1) ∧ w_.cell? (ad2.add (i * 6)) = some (.int .i64 x.f0) ∧ w_.cell? ⟨(ad2.add (i * 6)).block, (ad2.add (i * 6)).off + 1, none⟩ = some (.int .i64 x.f1) ∧ w_.cell? ⟨(ad2.add (i * 6)).block, (ad2.add (i * 6)).off + 2, none⟩ = some (.int .i64 x.f2) ∧ w_.cell? ⟨(ad2.add (i * 6)).block, (ad2.add (i * 6)).off + 3, none⟩ = some (.int .i64 x.f3) ∧ w_.cell? ⟨(ad2.add (i * 6)).block, (ad2.add (i * 6)).off + 4, none⟩ = some (.int .u64 x.f4) ∧ w_.cell? ⟨(ad2.add (i * 6)).block, (ad2.add (i * 6)).off + 5, none⟩ = some (.slice U2 x.f5.length D2) ∧ w_.cell? ⟨g, 0, none⟩ = some (.int .i64 v) ∧ w_.cell? ⟨g, 1, none⟩ = some (.int .i64 w) ∧ w_.cell? ⟨g, 2, none⟩ = some (.int .i64 c) ∧ w_.cell? ⟨g, 3, none⟩ = some (.int .i64 p) ∧ w_.cell? ⟨g, 4, none⟩ = some (.int .u64 s) ∧ w_.cell? ⟨g, 5, none⟩ = some (.slice A up.length C) ∧ XL W w_ g v w c p s A C up A1 A2 l x U1 U2) : w1.cell? (ad1.add (i * 6)) = some (.int .i64 x.f0) ∧ w1.cell? ⟨(ad1.add (i * 6)).block, (ad1.add (i * 6)).off + 1, none⟩ = some (.int .i64 x.f1) ∧ w1.cell? ⟨(ad1.add (i * 6)).block, (ad1.add (i * 6)).off + 2, none⟩ = some (.int .i64 x.f2) ∧ w1.cell? ⟨(ad1.add (i * 6)).block, (ad1.add (i * 6)).off + 3, none⟩ = some (.int .i64 x.f3) ∧ w1.cell? ⟨(ad1.add (i * 6)).block, (ad1.add (i * 6)).off + 4, none⟩ = some (.int .u64 x.f4) ∧ w1.cell? ⟨(ad1.add (i * 6)).block, (ad1.add (i * 6)).off + 5, none⟩ = some (.slice U1 x.f5.length D1) ∧ w1.cell? (ad2.add (i * 6)) = some (.int .i64 x.f0) ∧ w1.cell? ⟨(ad2.add (i * 6)).block, (ad2.add (i * 6)).off + 1, none⟩ = some (.int .i64 x.f1) ∧ w1.cell? ⟨(ad2.add (i * 6)).block, (ad2.add (i * 6)).off + 2, none⟩ = some (.int .i64 x.f2) ∧ w1.cell? ⟨(ad2.add (i * 6)).block, (ad2.add (i * 6)).off + 3, none⟩ = some (.int .i64 x.f3) ∧ w1.cell? ⟨(ad2.add (i * 6)).block, (ad2.add (i * 6)).off + 4, none⟩ = some (.int .u64 x.f4) ∧ w1.cell? ⟨(ad2.add (i * 6)).block, (ad2.add (i * 6)).off + 5, none⟩ = some (.slice U2 x.f5.length D2) ∧ w1.cell? ⟨g, 0, none⟩ = some (.int .i64 v) ∧ w1.cell? ⟨g, 1, none⟩ = some (.int .i64 w) ∧ w1.cell? ⟨g, 2, none⟩ = some (.int .i64 c) ∧ w1.cell? ⟨g, 3, none⟩ = some (.int .i64 p) ∧ w1.cell? ⟨g, 4, none⟩ = some (.int .u64 s) ∧ w1.cell? ⟨g, 5, none⟩ = some (.slice A up.length C) ∧ XL W w1 g v w c p s A C up A1 A2 l x U1 U2 := by
  obtain ⟨h0, h1, h2, h3, h4, h5, h6, h7, h8, h9, h10, h11, h12, h13, h14, h15, h16, h17, hx⟩ := h
  exact ⟨(b.cell (World.block_lt_of_cell? _ _ h0)).trans h0, (b.cell (World.block_lt_of_cell? _ _ h1)).trans h1, (b.cell (World.block_lt_of_cell? _ _ h2)).trans h2, (b.cell (World.block_lt_of_cell? _ _ h3)).trans h3, (b.cell (World.block_lt_of_cell? _ _ h4)).trans h4, (b.cell (World.block_lt_of_cell? _ _ h5)).trans h5, (b.cell (World.block_lt_of_cell? _ _ h6)).trans h6, (b.cell (World.block_lt_of_cell? _ _ h7)).trans h7, (b.cell (World.block_lt_of_cell? _ _ h8)).trans h8, (b.cell (World.block_lt_of_cell? _ _ h9)).trans h9, (b.cell (World.block_lt_of_cell? _ _ h10)).trans h10, (b.cell (World.block_lt_of_cell? _ _ h11)).trans h11, (b.cell (World.block_lt_of_cell? _ _ h12)).trans h12, (b.cell (World.block_lt_of_cell? _ _ h13)).trans h13, (b.cell (World.block_lt_of_cell? _ _ h14)).trans h14, (b.cell (World.block_lt_of_cell? _ _ h15)).trans h15, (b.cell (World.block_lt_of_cell? _ _ h16)).trans h16, (b.cell (World.block_lt_of_cell? _ _ h17)).trans h17, hx.step b⟩
theorem ofX {W w_ : World} {g i : Nat} {v w c p s : Int} {A : Option Addr} {C : Nat} {up : List (List Int)} {A1 A2 : Option Addr} {l : List S25} {x : S25} {U1 U2 : Option Addr} {D1 D2 : Nat} {ad1 ad2 : Addr} (h : w_.cell? (ad1.add (i * 6)) = some (.int .i64 x.f0) ∧ w_.cell? ⟨(ad1.add (i * 6)).block, (ad1.add (i * 6)).off + 1, none⟩ = some (.int .i64 x.f1) ∧ w_.cell? ⟨(ad1.add (i * 6)).block, (ad1.add (i * 6)).off + 2, none⟩ = some (.int .i64 x.f2) ∧ w_.cell? ⟨(ad1.add (i * 6)).block, (ad1.add (i * 6)).off + 3, none⟩ = some (.int .i64 x.f3) ∧ w_.cell? ⟨(ad1.add (i * 6)).block, (ad1.add (i * 6)).off + 4, none⟩ = some (.int .u64 x.f4) ∧ w_.cell? ⟨(ad1.add (i * 6)).block, (ad1.add (i * 6)).off + 5, none⟩ = some (.slice U1 x.f5.length D1) ∧ w_.cell? (ad2.add (i * 6)) = some (.int .i64 x.f0) ∧ w_.cell? ⟨(ad2.add (i * 6)).block, (ad2.add (i * 6)).off + 1, none⟩ = some (.int .i64 x.f1) ∧ w_.cell? ⟨(ad2.add (i * 6)).block, (ad2.add (i * 6)).off + 2, none⟩ = some (.int .i64 x.f2) ∧ w_.cell? ⟨(ad2.add (i * 6)).block, (ad2.add (i * 6)).off + 3, none⟩ = some (.int .i64 x.f3) ∧ w_.cell? ⟨(ad2.add (i * 6)).block, (ad2.add (i * 6)).off + 4, none⟩ = some (.int .u64 x.f4) ∧ w_.cell? ⟨(ad2.add (i * 6)).block, (ad2.add (i * 6)).off + 5, none⟩ = some (.slice U2 x.f5.length D2) ∧ w_.cell? ⟨g, 0, none⟩ = some (.int .i64 v) ∧ w_.cell? ⟨g, 1, none⟩ = some (.int .i64 w) ∧ w_.cell? ⟨g, 2, none⟩ = some (.int .i64 c) ∧ w_.cell? ⟨g, 3, none⟩ = some (.int .i64 p) ∧ w_.cell? ⟨g, 4, none⟩ = some (.int .u64 s) ∧ w_.cell? ⟨g, 5, none⟩ = some (.slice A up.length C) ∧ XL W w_ g v w c p s A C up A1 A2 l x U1 U2) : XL W w_ g v w c p s A C up A1 A2 l x U1 U2 := by
  obtain ⟨h0, h1, h2, h3, h4, h5, h6, h7, h8, h9, h10, h11, h12, h13, h14, h15, h16, h17, hx⟩ := h
  exact hx
structure B3 (W w : World) (g : Nat) (v w_ c p s : Int) (A : Option Addr) (C : Nat) (up : List (List Int)) : Prop where
  B : Below W.heap.size W w
  bx : w.heap[g]? = some (.cells #[.int .i64 v, .int .i64 w_, .int .i64 c, .int .i64 p, .int .u64 s, .slice A up.length C] 25 (0, 0))
  V : Kd.V (Kd.slice 3 (Kd.int .i64)) 40 w w.heap.size (fun k => k < W.heap.size) (.slice A up.length C) up
theorem B3.step {W w w' : World} {g : Nat} {v w_ c p s : Int} {A : Option Addr} {C : Nat} {up : List (List Int)} (h : B3 W w g v w_ c p s A C up) (b : Below w.heap.size w w') : B3 W w' g v w_ c p s A C up :=
  ⟨h.B.trans (b.mono h.B.size), (b.block g (Array.getElem?_eq_some_iff.1 h.bx).1).trans h.bx, Kd.V_below h.V b⟩
theorem B3.reads {W w : World} {g : Nat} {v w_ c p s : Int} {A : Option Addr} {C : Nat} {up : List (List Int)} (h : B3 W w g v w_ c p s A C up) : Kd.C (Kd.slice 3 (Kd.int .i64)) w A up.length up ∧ up.length ≤ C := ⟨(Kd.V_reads' h.V).2.2, (Kd.V_reads' h.V).2.1⟩
theorem B3.start (W : World) (v w_ c p s : Int) (A : Option Addr) (C : Nat) (up : List (List Int)) (hr : Kd.C (Kd.slice 3 (Kd.int .i64)) W A up.length up) (hC : up.length ≤ C) :
    B3 W (W.alloc (.cells #[.int .i64 v, .int .i64 w_, .int .i64 c, .int .i64 p, .int .u64 s, .slice A up.length C] 25)) W.heap.size v w_ c p s A C up :=
  ⟨box_below _ _, heap_alloc_new _ _, Kd.V_alloc (Kd.V_mk hC (Kd.C_F (Kd.heap_slice _ (Kd.heap_int _)) hr)) _⟩
theorem keep3 {W w_ : World} {g : Nat} {v w c p s : Int} {A : Option Addr} {C : Nat} {up : List (List Int)} {w1 : World} (b : Below w_.heap.size w_ w1) (h : w_.cell? ⟨g, 0, none⟩ = some (.int .i64 v) ∧ w_.cell? ⟨g, 1, none⟩ = some (.int .i64 w) ∧ w_.cell? ⟨g, 2, none⟩ = some (.int .i64 c) ∧ w_.cell? ⟨g, 3, none⟩ = some (.int .i64 p) ∧ w_.cell? ⟨g, 4, none⟩ = some (.int .u64 s) ∧ w_.cell? ⟨g, 5, none⟩ = some (.slice A up.length C) ∧ B3 W w_ g v w c p s A C up) : w1.cell? ⟨g, 0, none⟩ = some (.int .i64 v) ∧ w1.cell? ⟨g, 1, none⟩ = some (.int .i64 w) ∧ w1.cell? ⟨g, 2, none⟩ = some (.int .i64 c) ∧ w1.cell? ⟨g, 3, none⟩ = some (.int .i64 p) ∧ w1.cell? ⟨g, 4, none⟩ = some (.int .u64 s) ∧ w1.cell? ⟨g, 5, none⟩ = some (.slice A up.length C) ∧ B3 W w1 g v w c p s A C up := by
  obtain ⟨h0, h1, h2, h3, h4, h5, hx⟩ := h
  exact ⟨(b.cell (World.block_lt_of_cell? _ _ h0)).trans h0, (b.cell (World.block_lt_of_cell? _ _ h1)).trans h1, (b.cell (World.block_lt_of_cell? _ _ h2)).trans h2, (b.cell (World.block_lt_of_cell? _ _ h3)).trans h3, (b.cell (World.block_lt_of_cell? _ _ h4)).trans h4, (b.cell (World.block_lt_of_cell? _ _ h5)).trans h5, hx.step b⟩
theorem of3 {W w_ : World} {g : Nat} {v w c p s : Int} {A : Option Addr} {C : Nat} {up : List (List Int)} (h : w_.cell? ⟨g, 0, none⟩ = some (.int .i64 v) ∧ w_.cell? ⟨g, 1, none⟩ = some (.int .i64 w) ∧ w_.cell? ⟨g, 2, none⟩ = some (.int .i64 c) ∧ w_.cell? ⟨g, 3, none⟩ = some (.int .i64 p) ∧ w_.cell? ⟨g, 4, none⟩ = some (.int .u64 s) ∧ w_.cell? ⟨g, 5, none⟩ = some (.slice A up.length C) ∧ B3 W w_ g v w c p s A C up) : B3 W w_ g v w c p s A C up := by
  obtain ⟨h0, h1, h2, h3, h4, h5, hx⟩ := h
  exact hx
theorem Drawn0_below {w w' : World} (h : Drawn0 w w') : Below w.heap.size w w' := by
  obtain ⟨n, rfl⟩ := h
  exact pw_below_drewN (Below.refl _ _) n
set_option maxHeartbeats 4000000 in
theorem walkLong (v w c p s : Int) (A : Option Addr) (C : Nat) (up : List (List Int)) (W : World) (hr : Kd.C (Kd.slice 3 (Kd.int .i64)) W A up.length up) (hC : up.length ≤ C) (hs0 : 0 ≤ s) (b : Bool) (hb : sakialaw09_Long.f 2000 up = some b) (hbt : b = true) :
    Calls Try.prog 8 #[.agg #[.int .i64 v, .int .i64 w, .int .i64 c, .int .i64 p, .int .u64 s, .slice A up.length C]] W fun e w' => e = .returned (.bool true) ∧ Below W.heap.size W w' := by
  subst hbt
  have H3 := Aside0.mk (B3.start W v w c p s A C up hr hC)
  have HB := Aside0.mk hb
  clear hr hC hs0 hb
  go_enter Try.func8, Try.ntmps8
  go_wp2_with fail
  refine (sakialaw09_Long.calls 2000 A C up true _ H3.out.reads.1 H3.out.reads.2 HB.out).mono ?_
  rintro e w2 ⟨rfl, hd⟩
  have H4 := Aside0.mk (H3.out.step (Drawn0_below hd))
  clear hd H3
  go_wp2_with fail
  refine (liveT _).mono ?_
  rintro e w3 ⟨rfl, hb3⟩
  have H5 := Aside0.mk (H4.out.step hb3)
  clear hb3 H4
  go_wp2
  go_ret
  exact ⟨rfl, H5.out.B⟩
set_option maxHeartbeats 4000000 in
theorem walkWrong (v w c p s : Int) (A : Option Addr) (C : Nat) (up : List (List Int)) (W : World) (hr : Kd.C (Kd.slice 3 (Kd.int .i64)) W A up.length up) (hC : up.length ≤ C) (hs0 : 0 ≤ s) (hb : sakialaw09_Long.f 2000 up = some false) (hc : ¬ checkC v w c p up = 0) :
    Calls Try.prog 8 #[.agg #[.int .i64 v, .int .i64 w, .int .i64 c, .int .i64 p, .int .u64 s, .slice A up.length C]] W fun e w' => e = .returned (.bool true) ∧ Below W.heap.size W w' := by
  have H3 := Aside0.mk (B3.start W v w c p s A C up hr hC)
  have HB := Aside0.mk hb
  have HR := Aside0.mk (show sakiaref10_Right.f 2000 v w c p s up = some false by rw [ref_right v w c p s up 2000 (by omega)]; congr 1; simpa using hc)
  clear hr hC hs0 hb hc
  go_enter Try.func8, Try.ntmps8
  go_wp2_with fail
  refine (sakialaw09_Long.calls 2000 A C up false _ H3.out.reads.1 H3.out.reads.2 HB.out).mono ?_
  rintro e w2 ⟨rfl, hd⟩
  have H4 := Aside0.mk (H3.out.step (Drawn0_below hd))
  clear hd H3
  obtain ⟨d0, d1, d2, d3, d4, d5⟩ := blk_cell6 H4.out.bx
  go_wp2_with fail
  refine (sakiaref10_Right.calls 2000 v w c p s A C up false _ H4.out.reads.1 H4.out.reads.2 HR.out).mono ?_
  rintro e w3 ⟨rfl, hb3⟩
  have H5 := Aside0.mk (H4.out.step hb3)
  clear hb3 H4 d0 d1 d2 d3 d4 d5
  go_wp2_with fail
  refine (liveT _).mono ?_
  rintro e w4 ⟨rfl, hb4⟩
  have H6 := Aside0.mk (H5.out.step hb4)
  clear hb4 H5
  go_wp2
  go_ret
  exact ⟨rfl, H6.out.B⟩
set_option maxHeartbeats 8000000 in
theorem walkRight (v w c p s : Int) (A : Option Addr) (C : Nat) (up : List (List Int)) (W : World) (hr : Kd.C (Kd.slice 3 (Kd.int .i64)) W A up.length up) (hC : up.length ≤ C) (hs0 : 0 ≤ s) (hb : sakialaw09_Long.f 2000 up = some false) (hs : Sm up) (hc : checkC v w c p up = 0) :
    Calls Try.prog 8 #[.agg #[.int .i64 v, .int .i64 w, .int .i64 c, .int .i64 p, .int .u64 s, .slice A up.length C]] W fun e w' => e = .returned (.bool true) ∧ Below W.heap.size W w' := by
  have H3 := Aside0.mk (B3.start W v w c p s A C up hr hC)
  have HB := Aside0.mk hb
  have HS := Aside0.mk hs
  have HS0 := Aside0.mk hs0
  have HCC := Aside0.mk hc
  have HR := Aside0.mk (show sakiaref10_Right.f 2000 v w c p s up = some true by rw [ref_right v w c p s up 2000 (by omega), hc]; rfl)
  have HO := Aside0.mk (show conf_Others.f v w c p s up = some (othersN c p (cutN 32 s) up 5) by unfold conf_Others.f; rw [if_pos ⟨hs, hs0⟩, if_pos hc])
  have HRO := Aside0.mk (rothers_ok v w c p s up hs0 2000 (by omega))
  have HCNT := Aside0.mk (others_count (s := cutN 32 s) hc)
  have HLEN := Aside0.mk (othersN_len c p (cutN 32 s) up 5)
  have HMEM := Aside0.mk (show ∀ x ∈ othersN c p (cutN 32 s) up 5, checkC x.f0 x.f1 x.f2 x.f3 x.f5 = 0 ∧ x.f2 = c ∧ x.f3 = p ∧ x.f4 = cutN 32 s ∧ x.f5 = up from fun x hx => others_mem 5 hx)
  have hu := Try.underlying25
  clear hr hC hs0 hb hc hs
  go_enter Try.func8, Try.ntmps8
  go_wp2_with fail
  refine (sakialaw09_Long.calls 2000 A C up false _ H3.out.reads.1 H3.out.reads.2 HB.out).mono ?_
  rintro e w2 ⟨rfl, hd⟩
  have H4 := Aside0.mk (H3.out.step (Drawn0_below hd))
  clear hd H3
  obtain ⟨d0, d1, d2, d3, d4, d5⟩ := blk_cell6 H4.out.bx
  go_wp2_with fail
  refine (sakiaref10_Right.calls 2000 v w c p s A C up true _ H4.out.reads.1 H4.out.reads.2 HR.out).mono ?_
  rintro e w3 ⟨rfl, hb3⟩
  have H5 := Aside0.mk (H4.out.step hb3)
  clear hb3 H4 d0 d1 d2 d3 d4 d5
  go_wp2_with fail
  generalize W.heap.size = g at *
  obtain ⟨d0, d1, d2, d3, d4, d5⟩ := blk_cell6 H5.out.bx
  have H5' := H5.out
  have hHD := keep3 (below_drew1 (Below.refl _ w3)) ⟨d0, d1, d2, d3, d4, d5, H5'⟩
  go_region_held3 (fun w' => w'.cell? ⟨g, 0, none⟩ = some (.int .i64 v) ∧ w'.cell? ⟨g, 1, none⟩ = some (.int .i64 w) ∧ w'.cell? ⟨g, 2, none⟩ = some (.int .i64 c) ∧ w'.cell? ⟨g, 3, none⟩ = some (.int .i64 p) ∧ w'.cell? ⟨g, 4, none⟩ = some (.int .u64 s) ∧ w'.cell? ⟨g, 5, none⟩ = some (.slice A up.length C) ∧ B3 W w' g v w c p s A C up) (first | exact hHD | exact keep3 (by assumption) (by assumption))
    (first | (go_at_call 47; refine (conf_Others.calls v w c p s A C up _ _ (of3 (by assumption)).reads.1 (of3 (by assumption)).reads.2 HO.out).mono ?_; rintro e w' ⟨x1, rfl, ho1, b⟩) | (go_at_call 48; refine (sakiaref10_Others.calls 2000 v w c p s (fun k => k < W.heap.size) A C up _ _ (of3 (by assumption)).V HRO.out).mono ?_; rintro e w' ⟨x2, rfl, ho2, b⟩))
  have h3 := of3 (by assumption : w'.cell? ⟨g, 0, none⟩ = some (.int .i64 v) ∧ w'.cell? ⟨g, 1, none⟩ = some (.int .i64 w) ∧ w'.cell? ⟨g, 2, none⟩ = some (.int .i64 c) ∧ w'.cell? ⟨g, 3, none⟩ = some (.int .i64 p) ∧ w'.cell? ⟨g, 4, none⟩ = some (.int .u64 s) ∧ w'.cell? ⟨g, 5, none⟩ = some (.slice A up.length C) ∧ B3 W w' g v w c p s A C up)
  obtain ⟨A1, C1, rfl, hl1, hc1⟩ := Kd.R_reads ho1
  obtain ⟨A2, C2, rfl, hl2, hc2⟩ := Kd.N_reads ho2
  have hc1' := Kd.C_below hc1 b
  generalize othersN c p (cutN 32 s) up 5 = l at *
  have HWL := Aside0.mk (WL.mk (A1 := A1) (A2 := A2) h3.B h3.bx h3.reads.1 hc1' hc2)
  have HCL := Aside0.mk h3.reads.2
  have HL1 := Aside0.mk hl1
  have HL2 := Aside0.mk hl2
  clear h3 hc1' hc1 hc2 ho1 ho2 hHD H5' d0 d1 d2 d3 d4 d5 H5 b hl1 hl2
  by_cases hp : p = 1
  · have t1 : (p == 1) = true := beq_iff_eq.2 hp
    rw [if_pos hp] at HCNT
    have HP := Aside0.mk hp
    clear hp
    have t2 : (((l.length : Nat) : Int) != 10) = false := by simp [HCNT.out]
    obtain ⟨d0, d1, d2, d3, d4, d5⟩ := blk_cell6 HWL.out.bx
    go_wp2_with fail
    clear d0 d1 d2 d3 d4 d5
    go_loopw [6] (fun v6 wr => ∃ i : Nat, i ≤ l.length ∧ v6 = .int .i64 i ∧ WL W wr g v w c p s A C up A1 A2 l) (fun v6 _ => l.length - (intOf v6).toNat)
    case atStart => exact ⟨0, Nat.zero_le _, rfl, HWL.out⟩
    case round =>
      obtain ⟨i, hi, rfl, hW⟩ := hrel
      have HW := Aside0.mk hW
      clear hW
      by_cases hlt : i < l.length
      · have t3 : decide ((i : Int) < (l.length : Int)) = true := decide_eq_true (by omega)
        have hil : (i : Int) < (l.length : Int) := by omega
        obtain ⟨ad1, U1, D1, e1, a0, a1, a2, a3, a4, a5, m1, r1⟩ := at_T25 HW.out.c1 (i : Int) (by omega) hil
        obtain ⟨ad2, U2, D2, e2, b0, b1, b2, b3, b4, b5, m2, r2⟩ := at_T25 HW.out.c2 (i : Int) (by omega) hil
        subst e1
        subst e2
        simp only [Int.toNat_natCast] at a0 a1 a2 a3 a4 a5 b0 b1 b2 b3 b4 b5
        have hmem : rd_T25 l (i : Int) ∈ l := by
          rw [show rd_T25 l (i : Int) = l[i] by simp [rd_T25, hlt]]
          exact List.getElem_mem hlt
        have HX := Aside0.mk (HMEM.out _ hmem)
        clear hmem
        generalize rd_T25 l (i : Int) = x at *
        have HXS := Aside0.mk (show Sm x.f5 by rw [HX.out.2.2.2.2]; exact HS.out)
        have M1 := Aside0.mk m1
        have M2 := Aside0.mk m2
        have hxl : XL W wr g v w c p s A C up (some ad1) (some ad2) l x U1 U2 := ⟨HW.out, r1, r2⟩
        have HLT := Aside0.mk hlt
        clear m1 m2 r1 r2 hlt
        obtain ⟨d0, d1, d2, d3, d4, d5⟩ := blk_cell6 HW.out.bx
        have hHD := keepX (below_drew1 (Below.refl _ wr)) ⟨a0, a1, a2, a3, a4, a5, b0, b1, b2, b3, b4, b5, d0, d1, d2, d3, d4, d5, hxl⟩
        go_wp2_with fail
        go_region_held3 (fun w' => w'.cell? (ad1.add (i * 6)) = some (.int .i64 x.f0) ∧ w'.cell? ⟨(ad1.add (i * 6)).block, (ad1.add (i * 6)).off + 1, none⟩ = some (.int .i64 x.f1) ∧ w'.cell? ⟨(ad1.add (i * 6)).block, (ad1.add (i * 6)).off + 2, none⟩ = some (.int .i64 x.f2) ∧ w'.cell? ⟨(ad1.add (i * 6)).block, (ad1.add (i * 6)).off + 3, none⟩ = some (.int .i64 x.f3) ∧ w'.cell? ⟨(ad1.add (i * 6)).block, (ad1.add (i * 6)).off + 4, none⟩ = some (.int .u64 x.f4) ∧ w'.cell? ⟨(ad1.add (i * 6)).block, (ad1.add (i * 6)).off + 5, none⟩ = some (.slice U1 x.f5.length D1) ∧ w'.cell? (ad2.add (i * 6)) = some (.int .i64 x.f0) ∧ w'.cell? ⟨(ad2.add (i * 6)).block, (ad2.add (i * 6)).off + 1, none⟩ = some (.int .i64 x.f1) ∧ w'.cell? ⟨(ad2.add (i * 6)).block, (ad2.add (i * 6)).off + 2, none⟩ = some (.int .i64 x.f2) ∧ w'.cell? ⟨(ad2.add (i * 6)).block, (ad2.add (i * 6)).off + 3, none⟩ = some (.int .i64 x.f3) ∧ w'.cell? ⟨(ad2.add (i * 6)).block, (ad2.add (i * 6)).off + 4, none⟩ = some (.int .u64 x.f4) ∧ w'.cell? ⟨(ad2.add (i * 6)).block, (ad2.add (i * 6)).off + 5, none⟩ = some (.slice U2 x.f5.length D2) ∧ w'.cell? ⟨g, 0, none⟩ = some (.int .i64 v) ∧ w'.cell? ⟨g, 1, none⟩ = some (.int .i64 w) ∧ w'.cell? ⟨g, 2, none⟩ = some (.int .i64 c) ∧ w'.cell? ⟨g, 3, none⟩ = some (.int .i64 p) ∧ w'.cell? ⟨g, 4, none⟩ = some (.int .u64 s) ∧ w'.cell? ⟨g, 5, none⟩ = some (.slice A up.length C) ∧ XL W w' g v w c p s A C up (some ad1) (some ad2) l x U1 U2) (first | exact hHD | exact keepX (by assumption) (by assumption))
          (first | (go_at_call 49; refine (sameX x U1 U2 D1 D2 _ HXS.out (ofX (by assumption)).u1 M1.out (ofX (by assumption)).u2 M2.out).mono ?_; rintro e w' ⟨rfl, b⟩) | (go_at_call 50; refine (checkX x U1 D1 _ HXS.out (ofX (by assumption)).u1 M1.out HX.out.1).mono ?_; rintro e w' ⟨rfl, b⟩) | (go_at_call 31; refine (alikeX v w c p s up x A U1 C D1 _ HS.out (ofX (by assumption)).wl.u HCL.out (ofX (by assumption)).u1 M1.out HS0.out HX.out.2.1 HX.out.2.2.1 HX.out.2.2.2.1 HX.out.2.2.2.2).mono ?_; rintro e w' ⟨rfl, b⟩))
        have hx := ofX (by assumption : w'.cell? (ad1.add (i * 6)) = some (.int .i64 x.f0) ∧ w'.cell? ⟨(ad1.add (i * 6)).block, (ad1.add (i * 6)).off + 1, none⟩ = some (.int .i64 x.f1) ∧ w'.cell? ⟨(ad1.add (i * 6)).block, (ad1.add (i * 6)).off + 2, none⟩ = some (.int .i64 x.f2) ∧ w'.cell? ⟨(ad1.add (i * 6)).block, (ad1.add (i * 6)).off + 3, none⟩ = some (.int .i64 x.f3) ∧ w'.cell? ⟨(ad1.add (i * 6)).block, (ad1.add (i * 6)).off + 4, none⟩ = some (.int .u64 x.f4) ∧ w'.cell? ⟨(ad1.add (i * 6)).block, (ad1.add (i * 6)).off + 5, none⟩ = some (.slice U1 x.f5.length D1) ∧ w'.cell? (ad2.add (i * 6)) = some (.int .i64 x.f0) ∧ w'.cell? ⟨(ad2.add (i * 6)).block, (ad2.add (i * 6)).off + 1, none⟩ = some (.int .i64 x.f1) ∧ w'.cell? ⟨(ad2.add (i * 6)).block, (ad2.add (i * 6)).off + 2, none⟩ = some (.int .i64 x.f2) ∧ w'.cell? ⟨(ad2.add (i * 6)).block, (ad2.add (i * 6)).off + 3, none⟩ = some (.int .i64 x.f3) ∧ w'.cell? ⟨(ad2.add (i * 6)).block, (ad2.add (i * 6)).off + 4, none⟩ = some (.int .u64 x.f4) ∧ w'.cell? ⟨(ad2.add (i * 6)).block, (ad2.add (i * 6)).off + 5, none⟩ = some (.slice U2 x.f5.length D2) ∧ w'.cell? ⟨g, 0, none⟩ = some (.int .i64 v) ∧ w'.cell? ⟨g, 1, none⟩ = some (.int .i64 w) ∧ w'.cell? ⟨g, 2, none⟩ = some (.int .i64 c) ∧ w'.cell? ⟨g, 3, none⟩ = some (.int .i64 p) ∧ w'.cell? ⟨g, 4, none⟩ = some (.int .u64 s) ∧ w'.cell? ⟨g, 5, none⟩ = some (.slice A up.length C) ∧ XL W w' g v w c p s A C up (some ad1) (some ad2) l x U1 U2)
        have HW2 := Aside0.mk hx.wl
        have hi10 : (i : Int) < 10 := by have := HLEN.out; have := HLT.out; omega
        clear hx hHD hxl a0 a1 a2 a3 a4 a5 b0 b1 b2 b3 b4 b5 d0 d1 d2 d3 d4 d5 b
        go_wp2_with fail
        go_roundw
        case rel => exact ⟨i + 1, by have := HLT.out; omega, by go_num, HW2.out⟩
        case measure => have := HLT.out; simp [intOf]; omega
      · have t3 : decide ((i : Int) < (l.length : Int)) = false := decide_eq_false (by omega)
        go_wp2_with fail
        refine (liveT _).mono ?_
        rintro e w9 ⟨rfl, hb9⟩
        have H9 := Aside0.mk (HW.out.step hb9)
        clear hb9 HW
        go_wp2
        go_ret
        exact ⟨rfl, H9.out.B⟩
  · have t1 : (p == 1) = false := beq_eq_false_iff_ne.2 hp
    rw [if_neg hp] at HCNT
    have HP := Aside0.mk hp
    clear hp
    have t2 : (((l.length : Nat) : Int) != 8) = false := by simp [HCNT.out]
    obtain ⟨d0, d1, d2, d3, d4, d5⟩ := blk_cell6 HWL.out.bx
    go_wp2_with fail
    clear d0 d1 d2 d3 d4 d5
    go_loopw [6] (fun v6 wr => ∃ i : Nat, i ≤ l.length ∧ v6 = .int .i64 i ∧ WL W wr g v w c p s A C up A1 A2 l) (fun v6 _ => l.length - (intOf v6).toNat)
    case atStart => exact ⟨0, Nat.zero_le _, rfl, HWL.out⟩
    case round =>
      obtain ⟨i, hi, rfl, hW⟩ := hrel
      have HW := Aside0.mk hW
      clear hW
      by_cases hlt : i < l.length
      · have t3 : decide ((i : Int) < (l.length : Int)) = true := decide_eq_true (by omega)
        have hil : (i : Int) < (l.length : Int) := by omega
        obtain ⟨ad1, U1, D1, e1, a0, a1, a2, a3, a4, a5, m1, r1⟩ := at_T25 HW.out.c1 (i : Int) (by omega) hil
        obtain ⟨ad2, U2, D2, e2, b0, b1, b2, b3, b4, b5, m2, r2⟩ := at_T25 HW.out.c2 (i : Int) (by omega) hil
        subst e1
        subst e2
        simp only [Int.toNat_natCast] at a0 a1 a2 a3 a4 a5 b0 b1 b2 b3 b4 b5
        have hmem : rd_T25 l (i : Int) ∈ l := by
          rw [show rd_T25 l (i : Int) = l[i] by simp [rd_T25, hlt]]
          exact List.getElem_mem hlt
        have HX := Aside0.mk (HMEM.out _ hmem)
        clear hmem
        generalize rd_T25 l (i : Int) = x at *
        have HXS := Aside0.mk (show Sm x.f5 by rw [HX.out.2.2.2.2]; exact HS.out)
        have M1 := Aside0.mk m1
        have M2 := Aside0.mk m2
        have hxl : XL W wr g v w c p s A C up (some ad1) (some ad2) l x U1 U2 := ⟨HW.out, r1, r2⟩
        have HLT := Aside0.mk hlt
        clear m1 m2 r1 r2 hlt
        obtain ⟨d0, d1, d2, d3, d4, d5⟩ := blk_cell6 HW.out.bx
        have hHD := keepX (below_drew1 (Below.refl _ wr)) ⟨a0, a1, a2, a3, a4, a5, b0, b1, b2, b3, b4, b5, d0, d1, d2, d3, d4, d5, hxl⟩
        go_wp2_with fail
        go_region_held3 (fun w' => w'.cell? (ad1.add (i * 6)) = some (.int .i64 x.f0) ∧ w'.cell? ⟨(ad1.add (i * 6)).block, (ad1.add (i * 6)).off + 1, none⟩ = some (.int .i64 x.f1) ∧ w'.cell? ⟨(ad1.add (i * 6)).block, (ad1.add (i * 6)).off + 2, none⟩ = some (.int .i64 x.f2) ∧ w'.cell? ⟨(ad1.add (i * 6)).block, (ad1.add (i * 6)).off + 3, none⟩ = some (.int .i64 x.f3) ∧ w'.cell? ⟨(ad1.add (i * 6)).block, (ad1.add (i * 6)).off + 4, none⟩ = some (.int .u64 x.f4) ∧ w'.cell? ⟨(ad1.add (i * 6)).block, (ad1.add (i * 6)).off + 5, none⟩ = some (.slice U1 x.f5.length D1) ∧ w'.cell? (ad2.add (i * 6)) = some (.int .i64 x.f0) ∧ w'.cell? ⟨(ad2.add (i * 6)).block, (ad2.add (i * 6)).off + 1, none⟩ = some (.int .i64 x.f1) ∧ w'.cell? ⟨(ad2.add (i * 6)).block, (ad2.add (i * 6)).off + 2, none⟩ = some (.int .i64 x.f2) ∧ w'.cell? ⟨(ad2.add (i * 6)).block, (ad2.add (i * 6)).off + 3, none⟩ = some (.int .i64 x.f3) ∧ w'.cell? ⟨(ad2.add (i * 6)).block, (ad2.add (i * 6)).off + 4, none⟩ = some (.int .u64 x.f4) ∧ w'.cell? ⟨(ad2.add (i * 6)).block, (ad2.add (i * 6)).off + 5, none⟩ = some (.slice U2 x.f5.length D2) ∧ w'.cell? ⟨g, 0, none⟩ = some (.int .i64 v) ∧ w'.cell? ⟨g, 1, none⟩ = some (.int .i64 w) ∧ w'.cell? ⟨g, 2, none⟩ = some (.int .i64 c) ∧ w'.cell? ⟨g, 3, none⟩ = some (.int .i64 p) ∧ w'.cell? ⟨g, 4, none⟩ = some (.int .u64 s) ∧ w'.cell? ⟨g, 5, none⟩ = some (.slice A up.length C) ∧ XL W w' g v w c p s A C up (some ad1) (some ad2) l x U1 U2) (first | exact hHD | exact keepX (by assumption) (by assumption))
          (first | (go_at_call 49; refine (sameX x U1 U2 D1 D2 _ HXS.out (ofX (by assumption)).u1 M1.out (ofX (by assumption)).u2 M2.out).mono ?_; rintro e w' ⟨rfl, b⟩) | (go_at_call 50; refine (checkX x U1 D1 _ HXS.out (ofX (by assumption)).u1 M1.out HX.out.1).mono ?_; rintro e w' ⟨rfl, b⟩) | (go_at_call 31; refine (alikeX v w c p s up x A U1 C D1 _ HS.out (ofX (by assumption)).wl.u HCL.out (ofX (by assumption)).u1 M1.out HS0.out HX.out.2.1 HX.out.2.2.1 HX.out.2.2.2.1 HX.out.2.2.2.2).mono ?_; rintro e w' ⟨rfl, b⟩))
        have hx := ofX (by assumption : w'.cell? (ad1.add (i * 6)) = some (.int .i64 x.f0) ∧ w'.cell? ⟨(ad1.add (i * 6)).block, (ad1.add (i * 6)).off + 1, none⟩ = some (.int .i64 x.f1) ∧ w'.cell? ⟨(ad1.add (i * 6)).block, (ad1.add (i * 6)).off + 2, none⟩ = some (.int .i64 x.f2) ∧ w'.cell? ⟨(ad1.add (i * 6)).block, (ad1.add (i * 6)).off + 3, none⟩ = some (.int .i64 x.f3) ∧ w'.cell? ⟨(ad1.add (i * 6)).block, (ad1.add (i * 6)).off + 4, none⟩ = some (.int .u64 x.f4) ∧ w'.cell? ⟨(ad1.add (i * 6)).block, (ad1.add (i * 6)).off + 5, none⟩ = some (.slice U1 x.f5.length D1) ∧ w'.cell? (ad2.add (i * 6)) = some (.int .i64 x.f0) ∧ w'.cell? ⟨(ad2.add (i * 6)).block, (ad2.add (i * 6)).off + 1, none⟩ = some (.int .i64 x.f1) ∧ w'.cell? ⟨(ad2.add (i * 6)).block, (ad2.add (i * 6)).off + 2, none⟩ = some (.int .i64 x.f2) ∧ w'.cell? ⟨(ad2.add (i * 6)).block, (ad2.add (i * 6)).off + 3, none⟩ = some (.int .i64 x.f3) ∧ w'.cell? ⟨(ad2.add (i * 6)).block, (ad2.add (i * 6)).off + 4, none⟩ = some (.int .u64 x.f4) ∧ w'.cell? ⟨(ad2.add (i * 6)).block, (ad2.add (i * 6)).off + 5, none⟩ = some (.slice U2 x.f5.length D2) ∧ w'.cell? ⟨g, 0, none⟩ = some (.int .i64 v) ∧ w'.cell? ⟨g, 1, none⟩ = some (.int .i64 w) ∧ w'.cell? ⟨g, 2, none⟩ = some (.int .i64 c) ∧ w'.cell? ⟨g, 3, none⟩ = some (.int .i64 p) ∧ w'.cell? ⟨g, 4, none⟩ = some (.int .u64 s) ∧ w'.cell? ⟨g, 5, none⟩ = some (.slice A up.length C) ∧ XL W w' g v w c p s A C up (some ad1) (some ad2) l x U1 U2)
        have HW2 := Aside0.mk hx.wl
        have hi10 : (i : Int) < 10 := by have := HLEN.out; have := HLT.out; omega
        clear hx hHD hxl a0 a1 a2 a3 a4 a5 b0 b1 b2 b3 b4 b5 d0 d1 d2 d3 d4 d5 b
        go_wp2_with fail
        go_roundw
        case rel => exact ⟨i + 1, by have := HLT.out; omega, by go_num, HW2.out⟩
        case measure => have := HLT.out; simp [intOf]; omega
      · have t3 : decide ((i : Int) < (l.length : Int)) = false := decide_eq_false (by omega)
        go_wp2_with fail
        refine (liveT _).mono ?_
        rintro e w9 ⟨rfl, hb9⟩
        have H9 := Aside0.mk (HW.out.step hb9)
        clear hb9 HW
        go_wp2
        go_ret
        exact ⟨rfl, H9.out.B⟩
theorem walkOthers (v w c p s : Int) (A : Option Addr) (C : Nat) (up : List (List Int)) (W : World) (hr : Kd.C (Kd.slice 3 (Kd.int .i64)) W A up.length up) (hC : up.length ≤ C) (hs0 : 0 ≤ s) :
    Calls Try.prog 8 #[.agg #[.int .i64 v, .int .i64 w, .int .i64 c, .int .i64 p, .int .u64 s, .slice A up.length C]] W fun e w' => e = .returned (.bool true) ∧ Below W.heap.size W w' := by
  obtain ⟨b, hb, hsm⟩ := long10 up 2000 (by omega)
  cases b with
  | true => exact walkLong v w c p s A C up W hr hC hs0 true hb rfl
  | false =>
    by_cases hc : checkC v w c p up = 0
    · exact walkRight v w c p s A C up W hr hC hs0 hb (hsm rfl) hc
    · exact walkWrong v w c p s A C up W hr hC hs0 hb hc
end Go.Proofs.Ytkakgmpcenfjlaa.QCf
