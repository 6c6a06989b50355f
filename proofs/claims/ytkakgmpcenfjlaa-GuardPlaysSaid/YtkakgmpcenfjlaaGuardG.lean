/- GuardPlays, walked. -/
import Derived.Test.YtkakgmpcenfjlaaGuardR
import Derived.Test.YtkakgmpcenfjlaaGuardF
import Derived.Deep.RegionHeld3
set_option linter.unusedVariables false
set_option linter.unusedSimpArgs false
set_option maxRecDepth 100000
namespace Go.Proofs.Ytkakgmpcenfjlaa.Handle
open Go.RowKit Go.Proofs.YtkakgmpcenfjlaaW.PrintWords
theorem of32B (a : Int) (w : World) : Calls Try.prog 34 #[.int .u64 a] w fun e w' => e = .returned (.int .u32 (a % 4294967296)) ∧ Below w.heap.size w w' :=
  (of32 a w).mono fun e w' h => ⟨h.1, h.2 ▸ Below.refl _ _⟩
/-- What the law holds between its rounds. -/
structure PW (W w : World) (x y g : Nat) (sx sy : HS) (m : RH) : Prop where
  B : Below W.heap.size W w
  hx : Stands .u32 91 w x sx
  hy : Stands .u64 82 w y sy
  hm : Bx w g #[.int .i64 m.cap, .bool m.pr, .bool m.held, .int .u64 m.fr, .int .i64 m.n, .int .i64 m.gate, .int .i64 m.upto] 52
  xy : x ≠ y
  gx : g ≠ x
  gy : g ≠ y
  lx : W.heap.size ≤ x
  ly : W.heap.size ≤ y
  lg : W.heap.size ≤ g
theorem PW.step {W w w' : World} {x y g : Nat} {sx sy : HS} {m : RH} (h : PW W w x y g sx sy m) (b : Below w.heap.size w w') : PW W w' x y g sx sy m :=
  ⟨h.B.trans (b.mono h.B.size), h.hx.old b, h.hy.old b, h.hm.old b, h.xy, h.gx, h.gy, h.lx, h.ly, h.lg⟩
theorem PW.drew {W w : World} {x y g : Nat} {sx sy : HS} {m : RH} (h : PW W w x y g sx sy m) : PW W w.drew x y g sx sy m := h.step ⟨rfl, rfl, rfl, Nat.le_refl _, fun _ _ => rfl⟩
theorem PW.small {W w w' : World} {x y g : Nat} {sx sy sx' : HS} {m : RH} (h : PW W w x y g sx sy m) (ho : Only x w w') (hs : Stands .u32 91 w' x sx') : PW W w' x y g sx' sy m :=
  ⟨h.B.trans (ho.below h.lx h.B.size), hs, ho.stands h.hy (Ne.symm h.xy), (ho.block g h.hm.lt h.gx).trans h.hm, h.xy, h.gx, h.gy, h.lx, h.ly, h.lg⟩
theorem PW.great {W w w' : World} {x y g : Nat} {sx sy sy' : HS} {m : RH} (h : PW W w x y g sx sy m) (ho : Only y w w') (hs : Stands .u64 82 w' y sy') : PW W w' x y g sx sy' m :=
  ⟨h.B.trans (ho.below h.ly h.B.size), ho.stands h.hx h.xy, hs, (ho.block g h.hm.lt h.gy).trans h.hm, h.xy, h.gx, h.gy, h.lx, h.ly, h.lg⟩
theorem Bx.cells7 {w : World} {g : Nat} {c0 c1 c2 c3 c4 c5 c6 : Value} {t : TypeId} (h : Bx w g #[c0, c1, c2, c3, c4, c5, c6] t) :
    w.cell? ⟨g, 0, none⟩ = some c0 ∧ w.cell? ⟨g, 1, none⟩ = some c1 ∧ w.cell? ⟨g, 2, none⟩ = some c2 ∧ w.cell? ⟨g, 3, none⟩ = some c3 ∧ w.cell? ⟨g, 4, none⟩ = some c4 ∧ w.cell? ⟨g, 5, none⟩ = some c5 ∧ w.cell? ⟨g, 6, none⟩ = some c6 :=
  ⟨h.get 0 rfl, h.get 1 rfl, h.get 2 rfl, h.get 3 rfl, h.get 4 rfl, h.get 5 rfl, h.get 6 rfl⟩
theorem Bx.frozen {w : World} {g : Nat} {cs : Array Value} {t : TypeId} (h : Bx w g cs t) (i : Nat) : w.frozen? ⟨g, i, none⟩ = false := by
  have e : w.heap[g]? = some (.cells cs t (0, 0)) := h
  simp [World.frozen?, e]
/-- Both handles stand as the document's does: alike tells true. -/
theorem alikeG {cap st : Int} {i : Nat} {m : RH} {sx sy : HS} (h : RelG cap st i m sx sy) (hc : cap ≤ 1073741824) (hi : i ≤ 100) (x y : Nat) (w : World) (hx : Stands .u32 91 w x sx) (hy : Stands .u64 82 w y sy) :
    Calls Try.prog 43 #[.pointer (some ⟨x, 0, none⟩), .pointer (some ⟨y, 0, none⟩), .agg #[.int .i64 m.cap, .bool m.pr, .bool m.held, .int .u64 m.fr, .int .i64 m.n, .int .i64 m.gate, .int .i64 m.upto], .int .u64 st] w fun e w' => e = .returned (.bool true) ∧ Below w.heap.size w w' := by
  obtain ⟨mcap, mpr, mheld, mfr, mn, mgate, mupto⟩ := m
  obtain ⟨xcap, xpr, xheld, xfr, xn, xgate, xupto⟩ := sx
  obtain ⟨ycap, ypr, yheld, yfr, yn, ygate, yupto⟩ := sy
  have d1 := h.d32 hc hi
  have d2 := h.d64 hc hi
  obtain ⟨h1, h2, h3, h4, h5, h6, h7, h8, h9, h10, h11, f0, ch, pz, cz, le⟩ := h
  simp only at h1 h2 h3 h4 h5 h6 h7 h8 h9 h10 h11 f0 ch pz cz le d1 d2
  subst h1 h2 h3 h4 h5 h6 h7 h8 h9 h10 h11
  cases ypr with
  | false =>
    obtain ⟨e1, e2, e3, e4⟩ := cz rfl
    refine alikeC x y _ yfr _ xgate xupto ygate yupto mgate mupto st _ w hx hy ?_ ?_ ?_ ?_ (cut32 _ f0) d1 d2 ?_ ?_
    · rw [plusR32, e1]
    · rw [plusR32, e2]
    · rw [plusR64, e3]
    · rw [plusR64, e4]
    · rw [u64_wrap, e1]; omega
    · rw [u64_wrap, e2]; omega
  | true =>
    obtain ⟨e1, e2, e3, e4, e5, e6⟩ := pz rfl
    subst e1 e2 e3 e4 e5 e6
    exact alikeP x y _ yfr _ st _ w hx hy (cut32 _ f0)
theorem boxA {w9 w10 : World} (b : Below (w9.alloc (.cells #[.int .i64 0, .bool false, .bool false, .int .u64 0, .int .i64 0, .int .i64 0, .int .i64 0] 52)).drew.heap.size (w9.alloc (.cells #[.int .i64 0, .bool false, .bool false, .int .u64 0, .int .i64 0, .int .i64 0, .int .i64 0] 52)).drew w10) : Bx w10 w9.heap.size #[.int .i64 0, .bool false, .bool false, .int .u64 0, .int .i64 0, .int .i64 0, .int .i64 0] 52 ∧ w10.cell? ⟨w9.heap.size, 0, none⟩ = some (.int .i64 0) ∧ w10.cell? ⟨w9.heap.size, 1, none⟩ = some (.bool false) ∧ w10.cell? ⟨w9.heap.size, 2, none⟩ = some (.bool false) ∧ w10.cell? ⟨w9.heap.size, 3, none⟩ = some (.int .u64 0) ∧ w10.cell? ⟨w9.heap.size, 4, none⟩ = some (.int .i64 0) ∧ w10.cell? ⟨w9.heap.size, 5, none⟩ = some (.int .i64 0) ∧ w10.cell? ⟨w9.heap.size, 6, none⟩ = some (.int .i64 0) ∧ ∀ i, w10.frozen? ⟨w9.heap.size, i, none⟩ = false := by
  have hbx : Bx w10 w9.heap.size #[.int .i64 0, .bool false, .bool false, .int .u64 0, .int .i64 0, .int .i64 0, .int .i64 0] 52 := (show Bx (w9.alloc (.cells #[.int .i64 0, .bool false, .bool false, .int .u64 0, .int .i64 0, .int .i64 0, .int .i64 0] 52)).drew w9.heap.size #[.int .i64 0, .bool false, .bool false, .int .u64 0, .int .i64 0, .int .i64 0, .int .i64 0] 52 from Bx.new w9 #[.int .i64 0, .bool false, .bool false, .int .u64 0, .int .i64 0, .int .i64 0, .int .i64 0] 52).old b
  obtain ⟨z0, z1, z2, z3, z4, z5, z6⟩ := hbx.cells7
  exact ⟨hbx, z0, z1, z2, z3, z4, z5, z6, hbx.frozen⟩
structure P2 (W w : World) (g : Nat) (h : RH) : Prop where
  B : Below W.heap.size W w
  hm : Bx w g #[.int .i64 h.cap, .bool h.pr, .bool false, .int .u64 0, .int .i64 0, .int .i64 0, .int .i64 0] 52
  lg : W.heap.size ≤ g
theorem P2.step {W w w' : World} {g : Nat} {h : RH} (p : P2 W w g h) (b : Below w.heap.size w w') : P2 W w' g h := ⟨p.B.trans (b.mono p.B.size), p.hm.old b, p.lg⟩
theorem keep2 {W w w' : World} {g : Nat} {h : RH} (b : Below w.heap.size w w') (p : w.cell? ⟨g, 0, none⟩ = some (.int .i64 h.cap) ∧ P2 W w g h) : w'.cell? ⟨g, 0, none⟩ = some (.int .i64 h.cap) ∧ P2 W w' g h :=
  ⟨(p.2.step b).hm.get 0 rfl, p.2.step b⟩
theorem of2 {W w : World} {g : Nat} {h : RH} (p : w.cell? ⟨g, 0, none⟩ = some (.int .i64 h.cap) ∧ P2 W w g h) : P2 W w g h := p.2
structure RW (W w : World) (x y g b off i : Nat) (sx sy : HS) (m : RH) (d : DoS) (X : List Int) : Prop where
  pw : PW W w x y g sx sy m
  D : DoAt W b off i d
  hb : b < W.heap.size
  hX : Kd.C (Kd.int .i64) W d.A d.l X
  lX : X.length = d.l
  lC : d.l ≤ d.C
theorem RW.step {W w w' : World} {x y g b off i : Nat} {sx sy : HS} {m : RH} {d : DoS} {X : List Int} (h : RW W w x y g b off i sx sy m d X) (k : Below w.heap.size w w') : RW W w' x y g b off i sx sy m d X :=
  ⟨h.pw.step k, h.D, h.hb, h.hX, h.lX, h.lC⟩
theorem RW.S {W w : World} {x y g b off i : Nat} {sx sy : HS} {m : RH} {d : DoS} {X : List Int} (h : RW W w x y g b off i sx sy m d X) : w.cell? ⟨b, off + i * 6, none⟩ = some (.int .i64 d.kind) ∧ w.cell? ⟨b, off + i * 6 + 1, none⟩ = some (.int .i64 d.n) ∧ w.cell? ⟨b, off + i * 6 + 2, none⟩ = some (.int .u64 d.at_) ∧ w.cell? ⟨b, off + i * 6 + 3, none⟩ = some (.int .i64 d.op) ∧ w.cell? ⟨b, off + i * 6 + 4, none⟩ = some (.int .i64 d.cn) ∧ w.cell? ⟨b, off + i * 6 + 5, none⟩ = some (.slice d.A d.l d.C) ∧ w.cell? ⟨g, 0, none⟩ = some (.int .i64 m.cap) ∧ w.cell? ⟨g, 1, none⟩ = some (.bool m.pr) ∧ w.cell? ⟨g, 2, none⟩ = some (.bool m.held) ∧ w.cell? ⟨g, 3, none⟩ = some (.int .u64 m.fr) ∧ w.cell? ⟨g, 4, none⟩ = some (.int .i64 m.n) ∧ w.cell? ⟨g, 5, none⟩ = some (.int .i64 m.gate) ∧ w.cell? ⟨g, 6, none⟩ = some (.int .i64 m.upto) ∧ RW W w x y g b off i sx sy m d X := by
  obtain ⟨q0, q1, q2, q3, q4, q5⟩ := h.D.old h.pw.B h.hb
  obtain ⟨k0, k1, k2, k3, k4, k5, k6⟩ := h.pw.hm.cells7
  exact ⟨q0, q1, q2, q3, q4, q5, k0, k1, k2, k3, k4, k5, k6, h⟩
theorem ofR {W w : World} {x y g b off i : Nat} {sx sy : HS} {m : RH} {d : DoS} {X : List Int} (h : w.cell? ⟨b, off + i * 6, none⟩ = some (.int .i64 d.kind) ∧ w.cell? ⟨b, off + i * 6 + 1, none⟩ = some (.int .i64 d.n) ∧ w.cell? ⟨b, off + i * 6 + 2, none⟩ = some (.int .u64 d.at_) ∧ w.cell? ⟨b, off + i * 6 + 3, none⟩ = some (.int .i64 d.op) ∧ w.cell? ⟨b, off + i * 6 + 4, none⟩ = some (.int .i64 d.cn) ∧ w.cell? ⟨b, off + i * 6 + 5, none⟩ = some (.slice d.A d.l d.C) ∧ w.cell? ⟨g, 0, none⟩ = some (.int .i64 m.cap) ∧ w.cell? ⟨g, 1, none⟩ = some (.bool m.pr) ∧ w.cell? ⟨g, 2, none⟩ = some (.bool m.held) ∧ w.cell? ⟨g, 3, none⟩ = some (.int .u64 m.fr) ∧ w.cell? ⟨g, 4, none⟩ = some (.int .i64 m.n) ∧ w.cell? ⟨g, 5, none⟩ = some (.int .i64 m.gate) ∧ w.cell? ⟨g, 6, none⟩ = some (.int .i64 m.upto) ∧ RW W w x y g b off i sx sy m d X) : RW W w x y g b off i sx sy m d X := h.2.2.2.2.2.2.2.2.2.2.2.2.2
theorem keepR {W w w' : World} {x y g b off i : Nat} {sx sy : HS} {m : RH} {d : DoS} {X : List Int} (k : Below w.heap.size w w') (h : w.cell? ⟨b, off + i * 6, none⟩ = some (.int .i64 d.kind) ∧ w.cell? ⟨b, off + i * 6 + 1, none⟩ = some (.int .i64 d.n) ∧ w.cell? ⟨b, off + i * 6 + 2, none⟩ = some (.int .u64 d.at_) ∧ w.cell? ⟨b, off + i * 6 + 3, none⟩ = some (.int .i64 d.op) ∧ w.cell? ⟨b, off + i * 6 + 4, none⟩ = some (.int .i64 d.cn) ∧ w.cell? ⟨b, off + i * 6 + 5, none⟩ = some (.slice d.A d.l d.C) ∧ w.cell? ⟨g, 0, none⟩ = some (.int .i64 m.cap) ∧ w.cell? ⟨g, 1, none⟩ = some (.bool m.pr) ∧ w.cell? ⟨g, 2, none⟩ = some (.bool m.held) ∧ w.cell? ⟨g, 3, none⟩ = some (.int .u64 m.fr) ∧ w.cell? ⟨g, 4, none⟩ = some (.int .i64 m.n) ∧ w.cell? ⟨g, 5, none⟩ = some (.int .i64 m.gate) ∧ w.cell? ⟨g, 6, none⟩ = some (.int .i64 m.upto) ∧ RW W w x y g b off i sx sy m d X) : w'.cell? ⟨b, off + i * 6, none⟩ = some (.int .i64 d.kind) ∧ w'.cell? ⟨b, off + i * 6 + 1, none⟩ = some (.int .i64 d.n) ∧ w'.cell? ⟨b, off + i * 6 + 2, none⟩ = some (.int .u64 d.at_) ∧ w'.cell? ⟨b, off + i * 6 + 3, none⟩ = some (.int .i64 d.op) ∧ w'.cell? ⟨b, off + i * 6 + 4, none⟩ = some (.int .i64 d.cn) ∧ w'.cell? ⟨b, off + i * 6 + 5, none⟩ = some (.slice d.A d.l d.C) ∧ w'.cell? ⟨g, 0, none⟩ = some (.int .i64 m.cap) ∧ w'.cell? ⟨g, 1, none⟩ = some (.bool m.pr) ∧ w'.cell? ⟨g, 2, none⟩ = some (.bool m.held) ∧ w'.cell? ⟨g, 3, none⟩ = some (.int .u64 m.fr) ∧ w'.cell? ⟨g, 4, none⟩ = some (.int .i64 m.n) ∧ w'.cell? ⟨g, 5, none⟩ = some (.int .i64 m.gate) ∧ w'.cell? ⟨g, 6, none⟩ = some (.int .i64 m.upto) ∧ RW W w' x y g b off i sx sy m d X := ((ofR h).step k).S
theorem PW.off {W w w' : World} {x y g n : Nat} {sx sy : HS} {m : RH} (h : PW W w x y g sx sy m) (o : Only n w w') (l : W.heap.size ≤ n) (nx : x ≠ n) (ny : y ≠ n) (ng : g ≠ n) : PW W w' x y g sx sy m :=
  ⟨h.B.trans (o.below l h.B.size), o.stands h.hx nx, o.stands h.hy ny, (o.block g h.hm.lt ng).trans h.hm, h.xy, h.gx, h.gy, h.lx, h.ly, h.lg⟩
theorem PW.lts {W w : World} {x y g : Nat} {sx sy : HS} {m : RH} (h : PW W w x y g sx sy m) : W.heap.size ≤ w.heap.size ∧ x < w.heap.size ∧ y < w.heap.size ∧ g < w.heap.size := ⟨h.B.size, Stands.lt h.hx, Stands.lt h.hy, h.hm.lt⟩
theorem RW.off {W w w' : World} {x y g b off i : Nat} {sx sy : HS} {m : RH} {d : DoS} {X : List Int} {n : Nat} (h : RW W w x y g b off i sx sy m d X) (o : Only n w w') (l : W.heap.size ≤ n) (nx : x ≠ n) (ny : y ≠ n) (ng : g ≠ n) : RW W w' x y g b off i sx sy m d X :=
  ⟨h.pw.off o l nx ny ng, h.D, h.hb, h.hX, h.lX, h.lC⟩
theorem Only.set7 (w : World) (n : Nat) (v0 v1 v2 v3 v4 v5 v6 : Value) : Only n w (((((((w.setCell ⟨n, 0, none⟩ v0).setCell ⟨n, 1, none⟩ v1).setCell ⟨n, 2, none⟩ v2).setCell ⟨n, 3, none⟩ v3).setCell ⟨n, 4, none⟩ v4).setCell ⟨n, 5, none⟩ v5).setCell ⟨n, 6, none⟩ v6) :=
  (((((((Only.refl n w).set 0 v0).set 1 v1).set 2 v2).set 3 v3).set 4 v4).set 5 v5).set 6 v6
theorem Bx.set7 {w : World} {n : Nat} {t : TypeId} {z0 z1 z2 z3 z4 z5 z6 : Value} (h : Bx w n #[z0, z1, z2, z3, z4, z5, z6] t) (v0 v1 v2 v3 v4 v5 v6 : Value) : Bx (((((((w.setCell ⟨n, 0, none⟩ v0).setCell ⟨n, 1, none⟩ v1).setCell ⟨n, 2, none⟩ v2).setCell ⟨n, 3, none⟩ v3).setCell ⟨n, 4, none⟩ v4).setCell ⟨n, 5, none⟩ v5).setCell ⟨n, 6, none⟩ v6) n #[v0, v1, v2, v3, v4, v5, v6] t := by
  have e := heap_set (heap_set (heap_set (heap_set (heap_set (heap_set (heap_set h 0 v0) 1 v1) 2 v2) 3 v3) 4 v4) 5 v5) 6 v6
  simp only [List.setIfInBounds_toArray, List.set_cons_zero, List.set_cons_succ] at e
  exact e
theorem PW.mset {W w : World} {x y g : Nat} {sx sy : HS} {m : RH} (h : PW W w x y g sx sy m) (n : RH) : PW W (((((((w.setCell ⟨g, 0, none⟩ (.int .i64 n.cap)).setCell ⟨g, 1, none⟩ (.bool n.pr)).setCell ⟨g, 2, none⟩ (.bool n.held)).setCell ⟨g, 3, none⟩ (.int .u64 n.fr)).setCell ⟨g, 4, none⟩ (.int .i64 n.n)).setCell ⟨g, 5, none⟩ (.int .i64 n.gate)).setCell ⟨g, 6, none⟩ (.int .i64 n.upto)) x y g sx sy n :=
  have o := Only.set7 w g (.int .i64 n.cap) (.bool n.pr) (.bool n.held) (.int .u64 n.fr) (.int .i64 n.n) (.int .i64 n.gate) (.int .i64 n.upto)
  ⟨h.B.trans (o.below h.lg h.B.size), o.stands h.hx (Ne.symm h.gx), o.stands h.hy (Ne.symm h.gy), h.hm.set7 _ _ _ _ _ _ _, h.xy, h.gx, h.gy, h.lx, h.ly, h.lg⟩
set_option maxHeartbeats 4000000 in
theorem walkPlaysC (h : RH) (st : Int) (A : Option Addr) (c : Nat) (ds : List DoS) (X : Nat → List Int) (W : World) (hst1 : 0 ≤ st) (hst2 : st < 18446744073709551616)
    (hat : ∀ i (h : i < ds.length), ∃ b off, A = some ⟨b, off, none⟩ ∧ b < W.heap.size ∧ DoAt W b off i ds[i] ∧ Kd.C (Kd.int .i64) W ds[i].A ds[i].l (X i) ∧ ds[i].l ≤ ds[i].C)
    (hwf : ∀ d ∈ ds, (-9223372036854775808 ≤ d.n ∧ d.n < 9223372036854775808) ∧ 0 ≤ d.at_) (hr : rightB h.cap = true) (hp : h.pr = false) (hlen : ds.length ≤ 100) :
    Calls Try.prog 6 #[h.val, .int .u64 st, .slice A ds.length c] W fun e w' => e = .returned (.bool true) ∧ Below W.heap.size W w' := by
  unfold RH.val
  have HP := Aside.mk hp
  have HAT := Aside.mk hat
  have HWF := Aside.mk hwf
  have HST := Aside.mk (show 0 ≤ st ∧ st < 18446744073709551616 from ⟨hst1, hst2⟩)
  clear hp hat hwf hst1 hst2
  go_enter Try.func6, Try.ntmps6
  go_wp2_with fail
  have B1 := below_alloc_ W (.cells #[.int .i64 h.cap, .bool h.pr, .bool h.held, .int .u64 h.fr, .int .i64 h.n, .int .i64 h.gate, .int .i64 h.upto] 52)
  have z1 : (W.alloc (.cells #[.int .i64 h.cap, .bool h.pr, .bool h.held, .int .u64 h.fr, .int .i64 h.n, .int .i64 h.gate, .int .i64 h.upto] 52)).heap.size = W.heap.size + 1 := by simp
  generalize W.alloc (.cells #[.int .i64 h.cap, .bool h.pr, .bool h.held, .int .u64 h.fr, .int .i64 h.n, .int .i64 h.gate, .int .i64 h.upto] 52) = w1 at *
  have hM := Bx.new w1 #[.int .i64 h.cap, .bool h.pr, .bool false, .int .u64 0, .int .i64 0, .int .i64 0, .int .i64 0] 52
  have B2 := B1.trans ((below_alloc_ w1 (.cells #[.int .i64 h.cap, .bool h.pr, .bool false, .int .u64 0, .int .i64 0, .int .i64 0, .int .i64 0] 52)).mono B1.size)
  rw [z1] at hM
  have hp2 : P2 W (w1.alloc (.cells #[.int .i64 h.cap, .bool h.pr, .bool false, .int .u64 0, .int .i64 0, .int .i64 0, .int .i64 0] 52)) (W.heap.size + 1) h := ⟨B2, hM, by omega⟩
  generalize w1.alloc (.cells #[.int .i64 h.cap, .bool h.pr, .bool false, .int .u64 0, .int .i64 0, .int .i64 0, .int .i64 0] 52) = w2 at *
  generalize W.heap.size + 1 = g at *
  clear z1 B1 hM B2
  have hHD := keep2 (⟨rfl, rfl, rfl, Nat.le_refl _, fun _ _ => rfl⟩ : Below w2.heap.size w2 w2.drew) ⟨hp2.hm.get 0 rfl, hp2⟩
  go_region_held3 (fun w' => w'.cell? ⟨g, 0, none⟩ = some (.int .i64 h.cap) ∧ P2 W w' g h) (first | exact hHD | exact keep2 (by assumption) (by assumption))
    (first | (go_at_call 34; refine (of32B _ _).mono ?_; rintro e w3 ⟨rfl, b3⟩) | (go_at_call 33; refine (consumer32 _ _ _ hr).mono ?_; rintro e w4 ⟨rfl, sx, b4, zx⟩) | (go_at_call 22; refine (consumer64 _ _ _ hr).mono ?_; rintro e w5 ⟨rfl, sy, b5, zy⟩))
  have hq := of2 (by assumption : w5.cell? ⟨g, 0, none⟩ = some (.int .i64 h.cap) ∧ P2 W w5 g h)
  have hgl := hp2.hm.lt
  have hpw : PW W w5 w3.heap.size w4.heap.size g (newC h.cap (st % 4294967296)) (newC h.cap st) ⟨h.cap, h.pr, false, 0, 0, 0, 0⟩ :=
    ⟨hq.B, sx.old b5, sy, hq.hm, by omega, by have := b3.size; have e : w2.drew.heap.size = w2.heap.size := rfl; omega, by have := b3.size; have := b4.size; have e : w2.drew.heap.size = w2.heap.size := rfl; omega, by have := b3.size; have := hp2.B.size; have e : w2.drew.heap.size = w2.heap.size := rfl; omega, by have := b3.size; have := b4.size; have := hp2.B.size; have e : w2.drew.heap.size = w2.heap.size := rfl; omega, hq.lg⟩
  have hc30 := (right_bd hr).2
  have hrel : RelG h.cap st 0 ⟨h.cap, h.pr, false, 0, 0, 0, 0⟩ (newC h.cap (st % 4294967296)) (newC h.cap st) :=
    ⟨rfl, rfl, rfl, HP.out.symm, HP.out.symm, rfl, rfl, rfl, rfl, rfl, rfl, Int.le_refl 0, fun _ => rfl, fun hx => by have : h.pr = true := hx; rw [HP.out] at this; exact absurd this (by decide),
      fun _ => ⟨by show st % 4294967296 = (st + 0) % 4294967296; rw [Int.add_zero], by show st % 4294967296 = (st + 0) % 4294967296; rw [Int.add_zero], by show st = (st + 0) % 18446744073709551616; have := HST.out; omega, by show st = (st + 0) % 18446744073709551616; have := HST.out; omega⟩,
      by show 0 ≤ (0 : Int) ∧ (0 : Int) ≤ 0 ∧ (0 : Int) ≤ 0 + h.cap ∧ (0 : Int) ≤ ((0 : Nat) : Int) * 1073741824; have := (right_bd hr).1; omega⟩
  clear hq hHD hp2 sx sy b3 b4 b5 hgl
  generalize w3.heap.size = x at *
  generalize w4.heap.size = y at *
  clear zx zy
  have HPW := Aside.mk hpw
  have HREL := Aside.mk hrel
  have HR := Aside.mk hr
  have HC30 := Aside.mk hc30
  obtain ⟨k0, k1, k2, k3, k4, k5, k6⟩ := hpw.hm.cells7
  simp only at k0 k1 k2 k3 k4 k5 k6
  rw [HP.out] at k1
  have tlen : decide (100 < (ds.length : Int)) = false := decide_eq_false (by omega)
  clear hpw hrel hc30
  go_wp2_with (go_at_call 23; refine (refR _ _).mono ?_; rintro e w' ⟨rfl, rfl⟩)
  clear k0 k1 k2 k3 k4 k5 k6 hr
  go_loopw [10] (fun v wr => ∃ (i : Nat) (m : RH) (sx sy : HS), i ≤ ds.length ∧ v = .int .i64 i ∧ PW W wr x y g sx sy m ∧ RelG h.cap st i m sx sy) (fun v _ => ds.length - (intOf v).toNat)
  case atStart => exact ⟨0, _, _, _, Nat.zero_le _, rfl, HPW.out, HREL.out⟩
  case round =>
    obtain ⟨i, m, sx, sy, hi, rfl, hpw, hrel⟩ := hrel
    have HPW := Aside.mk hpw
    have HREL := Aside.mk hrel
    clear hrel
    by_cases hlt : i < ds.length
    · have t2 : decide ((i : Int) < (ds.length : Int)) = true := decide_eq_true (by omega)
      have hil : (i : Int) < (ds.length : Int) := by omega
      obtain ⟨b, off, rfl, hbW, hD0, hX0, hlC⟩ := HAT.out i hlt
      obtain ⟨⟨hn1, hn2⟩, hat0⟩ := HWF.out ds[i] (List.getElem_mem hlt)
      have HN := Aside.mk (show (-9223372036854775808 ≤ ds[i].n ∧ ds[i].n < 9223372036854775808) ∧ 0 ≤ ds[i].at_ from ⟨⟨hn1, hn2⟩, hat0⟩)
      have HI := Aside.mk hlt
      have HI1 := Aside.mk (show i < 100 by omega)
      generalize ds[i] = d at *
      have HXL := Aside.mk (show (X i).length = d.l from hX0.1)
      have HD0 := Aside.mk hD0
      have HX0 := Aside.mk hX0
      have HLC := Aside.mk hlC
      have HBW := Aside.mk hbW
      obtain ⟨q0, q1, q2, q3, q4, q5⟩ := hD0.old hpw.B hbW
      clear hn1 hn2 hat0 hD0 hX0 hlC hpw hlt HAT HWF
      generalize X i = xs at *
      have hD := Aside.mk (show RW W wr x y g b off i sx sy m d xs from ⟨HPW.out, HD0.out, HBW.out, HX0.out, HXL.out, HLC.out⟩)
      by_cases c1 : 100 < d.l
      · have t3 : decide (100 < (d.l : Int)) = true := decide_eq_true (by omega)
        go_wp2_with (go_at_call 24; refine (live _).mono ?_; rintro e w6 ⟨rfl, b6⟩)
        go_ret
        exact ⟨rfl, HPW.out.B.trans (b6.mono HPW.out.B.size)⟩
      have t3 : decide (100 < (d.l : Int)) = false := decide_eq_false (by omega)
      obtain ⟨F, hF⟩ : ∃ F, F = (decide (d.kind = 3) && (decide (d.n > 1073741824) || decide (d.n < -1073741824))) := ⟨_, rfl⟩
      have hfc : Calls Try.prog 37 #[.agg #[.int .i64 d.kind, .int .i64 d.n, .int .u64 d.at_, .int .i64 d.op, .int .i64 d.cn, .slice d.A d.l d.C]] wr fun e w' => e = .returned (.bool F) ∧ Below wr.heap.size wr w' := by
        have e1 : QGm.sakialaw14_far.f d.kind d.n d.at_ d.op d.cn xs = some F := by
          rw [hF]
          unfold QGm.sakialaw14_far.f
          by_cases k : d.kind = 3 <;> by_cases k2 : d.n > 1073741824 <;> simp [k, k2]
        have e2 := QGm.sakialaw14_far.calls d.kind d.n d.at_ d.op d.cn d.A d.C xs F wr
        rw [hD.out.lX] at e2
        exact e2 (Kd.C_below hD.out.hX hD.out.pw.B) hD.out.lC e1
      have HF := Aside.mk hF
      clear hF
      go_wp2_with fail
      refine hfc.mono ?_
      clear hfc
      rintro e w6 ⟨rfl, b6⟩
      replace hD := Aside.mk (hD.out.step b6)
      clear HPW HD0 HBW HX0 HXL HLC q0 q1 q2 q3 q4 q5 b6
      cases F with
      | true =>
        go_wp2_with (go_at_call 24; refine (live _).mono ?_; rintro e w7 ⟨rfl, b7⟩)
        go_ret
        exact ⟨rfl, hD.out.pw.B.trans (b7.mono hD.out.pw.B.size)⟩
      | false =>
        obtain ⟨q0, q1, q2, q3, q4, q5, k0, k1, k2, k3, k4, k5, k6, _⟩ := hD.out.S
        have hst := Aside.mk (HREL.out.step d HC30.out HI1.out HN.out.1.1 HN.out.1.2 HN.out.2 (fun k => by have := HF.out; simp [k] at this; omega))
        obtain ⟨r, hr⟩ : ∃ r, r = mayG (wrap64 (m.upto - m.gate)) m.cap m.pr m.held d.op d.cn (d.l : Int) := ⟨_, rfl⟩
        have hMay : ∀ w, Kd.C (Kd.int .i64) w d.A d.l xs → Calls Try.prog 38 #[.agg #[.int .i64 m.cap, .bool m.pr, .bool m.held, .int .u64 m.fr, .int .i64 m.n, .int .i64 m.gate, .int .i64 m.upto], .agg #[.int .i64 d.op, .int .i64 d.cn, .slice d.A d.l d.C]] w fun e w' => e = .returned (.int .i64 r) ∧ Below w.heap.size w w' := by
          intro w hx
          have e2 := QGm.sakiaref14_May.calls 10 m.cap m.pr m.held m.fr m.n m.gate m.upto d.op d.cn d.A d.C xs r w
          have e1 := refMay_ok m.cap m.pr m.held m.fr m.n m.gate m.upto d.op d.cn xs
          rw [hD.out.lX] at e2 e1
          exact e2 hx hD.out.lC (e1.trans (by rw [hr]))
        go_wp2_with fail
        go_still_tail 6, (by kernel_rfl)
        repeat still_step
        try (refine wpStill_nil ?_)
        try (change wpList _ _ _ _ _ w6.drew)
        replace hD := Aside.mk (hD.out.step (⟨rfl, rfl, rfl, Nat.le_refl _, fun _ _ => rfl⟩ : Below w6.heap.size w6 w6.drew))
        go_wp2_with fail
        refine (hMay _ (Kd.C_below hD.out.hX hD.out.pw.B)).mono ?_
        rintro e w7 ⟨rfl, b7⟩
        replace hD := Aside.mk (hD.out.step b7)
        clear hMay q0 q1 q2 q3 q4 q5 k0 k1 k2 k3 k4 k5 k6 b7
        obtain ⟨q0, q1, q2, q3, q4, q5, k0, k1, k2, k3, k4, k5, k6, _⟩ := hD.out.S
        have e32 : may32E sx d.op d.cn d.l = r := by rw [may32_eq, hr, HREL.out.d32 HC30.out (Nat.le_of_lt HI1.out), HREL.out.xc, HREL.out.xp, HREL.out.xh, HREL.out.mc]
        have e64 : may64E sy d.op d.cn d.l = r := by rw [may64_eq, hr, HREL.out.d64 HC30.out (Nat.le_of_lt HI1.out), HREL.out.yc, HREL.out.yp, HREL.out.yh, HREL.out.mc]
        have E32 := Aside.mk e32
        have E64 := Aside.mk e64
        clear e32 e64 hr
        go_wp2_with fail
        go_at_call 39
        refine (may32 x sx d.op d.cn d.A d.l d.C _ hD.out.pw.hx).mono ?_
        rintro e w8 ⟨rfl, b8⟩
        rw [E32.out]
        replace hD := Aside.mk (hD.out.step b8)
        clear q0 q1 q2 q3 q4 q5 k0 k1 k2 k3 k4 k5 k6 b8
        obtain ⟨q0, q1, q2, q3, q4, q5, k0, k1, k2, k3, k4, k5, k6, _⟩ := hD.out.S
        go_wp2_with fail
        go_at_call 40
        refine (may64 y sy d.op d.cn d.A d.l d.C _ hD.out.pw.hy).mono ?_
        rintro e w9 ⟨rfl, b9⟩
        rw [E64.out]
        replace hD := Aside.mk (hD.out.step b9)
        clear q0 q1 q2 q3 q4 q5 k0 k1 k2 k3 k4 k5 k6 b9 E32 E64
        go_wp2_with fail
        have hHD := (hD.out.step (⟨rfl, rfl, rfl, Nat.le_refl _, fun _ _ => rfl⟩ : Below w9.heap.size w9 w9.drew)).S
        have L := Aside.mk hD.out.pw.lts
        have L1 := Aside.mk L.out.1
        have N1 := Aside.mk (Nat.ne_of_lt L.out.2.1)
        have N2 := Aside.mk (Nat.ne_of_lt L.out.2.2.1)
        have N3 := Aside.mk (Nat.ne_of_lt L.out.2.2.2)
        obtain ⟨⟨n, ok⟩, hno⟩ : ∃ p, p = modelF d m := ⟨_, rfl⟩
        have hmod : ∀ w, Kd.C (Kd.int .i64) w d.A d.l xs → Calls Try.prog 41 #[.agg #[.int .i64 m.cap, .bool m.pr, .bool m.held, .int .u64 m.fr, .int .i64 m.n, .int .i64 m.gate, .int .i64 m.upto], .agg #[.int .i64 d.kind, .int .i64 d.n, .int .u64 d.at_, .int .i64 d.op, .int .i64 d.cn, .slice d.A d.l d.C]] w fun e w' => e = .returned (.tuple #[.agg #[.int .i64 n.cap, .bool n.pr, .bool n.held, .int .u64 n.fr, .int .i64 n.n, .int .i64 n.gate, .int .i64 n.upto], .bool ok]) ∧ Below w.heap.size w w' := by
          intro w hx
          have e1 := model_ok d m xs
          rw [← hno] at e1
          have e2 := QGm.sakialaw14_model.calls _ _ _ _ _ _ _ _ _ _ _ _ d.A d.C xs _ _ _ _ _ _ _ _ w (by rw [hD.out.lX]; exact hx) (by rw [hD.out.lX]; exact hD.out.lC) e1
          rw [hD.out.lX] at e2
          exact e2
        have hst2 := hst.out
        rw [← hno] at hst2
        have HST2 := Aside.mk hst2
        have HMOD := Aside.mk hmod
        clear hst hst2 hno hmod
        go_region_held3 (fun w' => w'.cell? ⟨b, off + i * 6, none⟩ = some (.int .i64 d.kind) ∧ w'.cell? ⟨b, off + i * 6 + 1, none⟩ = some (.int .i64 d.n) ∧ w'.cell? ⟨b, off + i * 6 + 2, none⟩ = some (.int .u64 d.at_) ∧ w'.cell? ⟨b, off + i * 6 + 3, none⟩ = some (.int .i64 d.op) ∧ w'.cell? ⟨b, off + i * 6 + 4, none⟩ = some (.int .i64 d.cn) ∧ w'.cell? ⟨b, off + i * 6 + 5, none⟩ = some (.slice d.A d.l d.C) ∧ w'.cell? ⟨g, 0, none⟩ = some (.int .i64 m.cap) ∧ w'.cell? ⟨g, 1, none⟩ = some (.bool m.pr) ∧ w'.cell? ⟨g, 2, none⟩ = some (.bool m.held) ∧ w'.cell? ⟨g, 3, none⟩ = some (.int .u64 m.fr) ∧ w'.cell? ⟨g, 4, none⟩ = some (.int .i64 m.n) ∧ w'.cell? ⟨g, 5, none⟩ = some (.int .i64 m.gate) ∧ w'.cell? ⟨g, 6, none⟩ = some (.int .i64 m.upto) ∧ RW W w' x y g b off i sx sy m d xs) (first | (with_reducible exact hHD) | (with_reducible exact (hTT.out.off (Only.set7 _ _ _ _ _ _ _ _ _) L1.out N1.out N2.out N3.out).S) | (with_reducible exact (hTT.out.step (below_alloc_ _ _)).S) | (with_reducible exact hTT.out.S) | (with_reducible exact keepR (below_alloc_ _ _) (by assumption)))
          (first | ((with_reducible refine (HMOD.out _ (Kd.C_below hD.out.hX (ofR (by assumption)).pw.B)).mono ?_); rintro e w10 ⟨rfl, b10⟩; have hTT : Aside (RW W w10 x y g b off i sx sy m d xs) := Aside.mk ((ofR (by assumption)).step b10); (try (with_reducible (have hbq := boxA (w9 := w9) (w10 := w10) b10); obtain ⟨hbx, z0, z1, z2, z3, z4, z5, z6, fz⟩ := hbq; have HBX := Aside.mk hbx; clear hbx))))
        · rename_i hH
          have hRN := ofR hH
          have hBn := Bx.new w10 #[.int .i64 n.cap, .bool n.pr, .bool n.held, .int .u64 n.fr, .int .i64 n.n, .int .i64 n.gate, .int .i64 n.upto] 52
          clear hH hTT b10 HMOD hHD hD L L1 N1 N2 N3
          generalize (w10.alloc (.cells #[.int .i64 n.cap, .bool n.pr, .bool n.held, .int .u64 n.fr, .int .i64 n.n, .int .i64 n.gate, .int .i64 n.upto] 52)) = wn at hRN hBn ⊢
          generalize w10.heap.size = nb at hBn ⊢
          have hD := Aside.mk hRN
          obtain ⟨q0, q1, q2, q3, q4, q5, k0, k1, k2, k3, k4, k5, k6, _⟩ := hD.out.S
          obtain ⟨n0, n1, n2, n3, n4, n5, n6⟩ := hBn.cells7
          have fzg : ∀ i, wn.frozen? ⟨g, i, none⟩ = false := hD.out.pw.hm.frozen
          clear hRN hBn
          go_upto_region 19 with (fail)
          have hRM : RW W (((((((wn.setCell ⟨g, 0, none⟩ (.int .i64 n.cap)).setCell ⟨g, 1, none⟩ (.bool n.pr)).setCell ⟨g, 2, none⟩ (.bool n.held)).setCell ⟨g, 3, none⟩ (.int .u64 n.fr)).setCell ⟨g, 4, none⟩ (.int .i64 n.n)).setCell ⟨g, 5, none⟩ (.int .i64 n.gate)).setCell ⟨g, 6, none⟩ (.int .i64 n.upto)) x y g b off i sx sy n d xs := ⟨hD.out.pw.mset n, hD.out.D, hD.out.hb, hD.out.hX, hD.out.lX, hD.out.lC⟩
          clear q0 q1 q2 q3 q4 q5 k0 k1 k2 k3 k4 k5 k6 n0 n1 n2 n3 n4 n5 n6 fzg hD
          generalize (((((((wn.setCell ⟨g, 0, none⟩ (.int .i64 n.cap)).setCell ⟨g, 1, none⟩ (.bool n.pr)).setCell ⟨g, 2, none⟩ (.bool n.held)).setCell ⟨g, 3, none⟩ (.int .u64 n.fr)).setCell ⟨g, 4, none⟩ (.int .i64 n.n)).setCell ⟨g, 5, none⟩ (.int .i64 n.gate)).setCell ⟨g, 6, none⟩ (.int .i64 n.upto)) = wm at hRM ⊢
          have hD := Aside.mk hRM
          clear hRM
          obtain ⟨q0, q1, q2, q3, q4, q5, k0, k1, k2, k3, k4, k5, k6, _⟩ := hD.out.S
          go_wp2_with fail
          go_at_call 42
          refine (smallT x sx d _ hD.out.pw.hx).mono ?_
          rintro e wa ⟨rfl, hsa, hoa⟩
          rw [HST2.out.2.1]
          replace hD := Aside.mk (RW.mk (hD.out.pw.small hoa hsa) hD.out.D hD.out.hb hD.out.hX hD.out.lX hD.out.lC)
          clear q0 q1 q2 q3 q4 q5 k0 k1 k2 k3 k4 k5 k6 hsa hoa
          obtain ⟨q0, q1, q2, q3, q4, q5, k0, k1, k2, k3, k4, k5, k6, _⟩ := hD.out.S
          go_wp2_with fail
          go_at_call 27
          refine (greatT y sy d _ hD.out.pw.hy).mono ?_
          rintro e wb ⟨rfl, hsb, hob⟩
          rw [HST2.out.2.2]
          replace hD := Aside.mk (RW.mk (hD.out.pw.great hob hsb) hD.out.D hD.out.hb hD.out.hX hD.out.lX hD.out.lC)
          clear q0 q1 q2 q3 q4 q5 k0 k1 k2 k3 k4 k5 k6 hsb hob
          obtain ⟨q0, q1, q2, q3, q4, q5, k0, k1, k2, k3, k4, k5, k6, _⟩ := hD.out.S
          go_wp2_with fail
          go_at_call 43
          refine (alikeG HST2.out.1 HC30.out HI1.out x y _ hD.out.pw.hx hD.out.pw.hy).mono ?_
          rintro e wc ⟨rfl, bc⟩
          replace hD := Aside.mk (hD.out.step bc)
          clear q0 q1 q2 q3 q4 q5 k0 k1 k2 k3 k4 k5 k6 bc
          go_wp2_with fail
          go_roundw
          case rel =>
            have := HI.out
            exact ⟨i + 1, n, _, _, by omega, by go_num, hD.out.pw, HST2.out.1⟩
          case measure =>
            have := HI.out
            simp [intOf]
            omega
        · rename_i hH
          have hRN := ofR hH
          have hBn := HBX.out.set7 (.int .i64 n.cap) (.bool n.pr) (.bool n.held) (.int .u64 n.fr) (.int .i64 n.n) (.int .i64 n.gate) (.int .i64 n.upto)
          clear hH hTT b10 HMOD hHD hD L L1 N1 N2 N3 HBX fz z0 z1 z2 z3 z4 z5 z6
          generalize (((((((w10.setCell ⟨w9.heap.size, 0, none⟩ (.int .i64 n.cap)).setCell ⟨w9.heap.size, 1, none⟩ (.bool n.pr)).setCell ⟨w9.heap.size, 2, none⟩ (.bool n.held)).setCell ⟨w9.heap.size, 3, none⟩ (.int .u64 n.fr)).setCell ⟨w9.heap.size, 4, none⟩ (.int .i64 n.n)).setCell ⟨w9.heap.size, 5, none⟩ (.int .i64 n.gate)).setCell ⟨w9.heap.size, 6, none⟩ (.int .i64 n.upto)) = wn at hRN hBn ⊢
          generalize w9.heap.size = nb at hBn ⊢
          have hD := Aside.mk hRN
          obtain ⟨q0, q1, q2, q3, q4, q5, k0, k1, k2, k3, k4, k5, k6, _⟩ := hD.out.S
          obtain ⟨n0, n1, n2, n3, n4, n5, n6⟩ := hBn.cells7
          have fzg : ∀ i, wn.frozen? ⟨g, i, none⟩ = false := hD.out.pw.hm.frozen
          clear hRN hBn
          go_upto_region 19 with (fail)
          have hRM : RW W (((((((wn.setCell ⟨g, 0, none⟩ (.int .i64 n.cap)).setCell ⟨g, 1, none⟩ (.bool n.pr)).setCell ⟨g, 2, none⟩ (.bool n.held)).setCell ⟨g, 3, none⟩ (.int .u64 n.fr)).setCell ⟨g, 4, none⟩ (.int .i64 n.n)).setCell ⟨g, 5, none⟩ (.int .i64 n.gate)).setCell ⟨g, 6, none⟩ (.int .i64 n.upto)) x y g b off i sx sy n d xs := ⟨hD.out.pw.mset n, hD.out.D, hD.out.hb, hD.out.hX, hD.out.lX, hD.out.lC⟩
          clear q0 q1 q2 q3 q4 q5 k0 k1 k2 k3 k4 k5 k6 n0 n1 n2 n3 n4 n5 n6 fzg hD
          generalize (((((((wn.setCell ⟨g, 0, none⟩ (.int .i64 n.cap)).setCell ⟨g, 1, none⟩ (.bool n.pr)).setCell ⟨g, 2, none⟩ (.bool n.held)).setCell ⟨g, 3, none⟩ (.int .u64 n.fr)).setCell ⟨g, 4, none⟩ (.int .i64 n.n)).setCell ⟨g, 5, none⟩ (.int .i64 n.gate)).setCell ⟨g, 6, none⟩ (.int .i64 n.upto)) = wm at hRM ⊢
          have hD := Aside.mk hRM
          clear hRM
          obtain ⟨q0, q1, q2, q3, q4, q5, k0, k1, k2, k3, k4, k5, k6, _⟩ := hD.out.S
          go_wp2_with fail
          go_at_call 42
          refine (smallT x sx d _ hD.out.pw.hx).mono ?_
          rintro e wa ⟨rfl, hsa, hoa⟩
          rw [HST2.out.2.1]
          replace hD := Aside.mk (RW.mk (hD.out.pw.small hoa hsa) hD.out.D hD.out.hb hD.out.hX hD.out.lX hD.out.lC)
          clear q0 q1 q2 q3 q4 q5 k0 k1 k2 k3 k4 k5 k6 hsa hoa
          obtain ⟨q0, q1, q2, q3, q4, q5, k0, k1, k2, k3, k4, k5, k6, _⟩ := hD.out.S
          go_wp2_with fail
          go_at_call 27
          refine (greatT y sy d _ hD.out.pw.hy).mono ?_
          rintro e wb ⟨rfl, hsb, hob⟩
          rw [HST2.out.2.2]
          replace hD := Aside.mk (RW.mk (hD.out.pw.great hob hsb) hD.out.D hD.out.hb hD.out.hX hD.out.lX hD.out.lC)
          clear q0 q1 q2 q3 q4 q5 k0 k1 k2 k3 k4 k5 k6 hsb hob
          obtain ⟨q0, q1, q2, q3, q4, q5, k0, k1, k2, k3, k4, k5, k6, _⟩ := hD.out.S
          go_wp2_with fail
          go_at_call 43
          refine (alikeG HST2.out.1 HC30.out HI1.out x y _ hD.out.pw.hx hD.out.pw.hy).mono ?_
          rintro e wc ⟨rfl, bc⟩
          replace hD := Aside.mk (hD.out.step bc)
          clear q0 q1 q2 q3 q4 q5 k0 k1 k2 k3 k4 k5 k6 bc
          go_wp2_with fail
          go_roundw
          case rel =>
            have := HI.out
            exact ⟨i + 1, n, _, _, by omega, by go_num, hD.out.pw, HST2.out.1⟩
          case measure =>
            have := HI.out
            simp [intOf]
            omega
    · have t2 : decide ((i : Int) < (ds.length : Int)) = false := decide_eq_false (by omega)
      obtain ⟨k0, k1, k2, k3, k4, k5, k6⟩ := hpw.hm.cells7
      have HI2 := Aside.mk (show i ≤ 100 by omega)
      clear hpw
      go_wp2_with fail
      refine (alikeG HREL.out HC30.out HI2.out x y _ HPW.out.hx HPW.out.hy).mono ?_
      rintro e w6 ⟨rfl, b6⟩
      have HPW2 := Aside.mk (HPW.out.step b6)
      clear b6 k0 k1 k2 k3 k4 k5 k6
      go_wp2_with (go_at_call 24; refine (live _).mono ?_; rintro e w7 ⟨rfl, b7⟩)
      go_ret
      exact ⟨rfl, HPW2.out.B.trans (b7.mono HPW2.out.B.size)⟩
end Go.Proofs.Ytkakgmpcenfjlaa.Handle
