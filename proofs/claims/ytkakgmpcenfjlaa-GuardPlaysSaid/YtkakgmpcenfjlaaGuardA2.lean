/- sakialaw14's alike: of handles that have what the document says it tells true. -/
import Derived.Test.YtkakgmpcenfjlaaGuardC
import Derived.Test.YtkakgmpcenfjlaaQGmx3
import Derived.Deep.RegionHeld3
set_option linter.unusedVariables false
set_option linter.unusedSimpArgs false
set_option maxRecDepth 100000
namespace Go.Proofs.Ytkakgmpcenfjlaa.Handle
open Go.RowKit Go.Proofs.YtkakgmpcenfjlaaW.PrintWords
/-- The document's handle. -/
structure RH where
  cap : Int
  pr : Bool
  held : Bool
  fr : Int
  n : Int
  gate : Int
  upto : Int
def RH.val (h : RH) : Value := .agg #[.int .i64 h.cap, .bool h.pr, .bool h.held, .int .u64 h.fr, .int .i64 h.n, .int .i64 h.gate, .int .i64 h.upto]
theorem tmod32 (a : Int) (h : 0 ≤ a) : Int.tmod a 4294967296 = a % 4294967296 := Int.tmod_eq_emod_of_nonneg h
/-- A block that holds these cells. -/
def Bx (w : World) (g : Nat) (cs : Array Value) (t : TypeId) : Prop := w.heap[g]? = some (.cells cs t (0, 0))
theorem Bx.lt {w : World} {g : Nat} {cs : Array Value} {t : TypeId} (h : Bx w g cs t) : g < w.heap.size := (Array.getElem?_eq_some_iff.1 h).1
theorem Bx.old {w w' : World} {g : Nat} {cs : Array Value} {t : TypeId} (h : Bx w g cs t) (b : Below w.heap.size w w') : Bx w' g cs t := (b.block g h.lt).trans h
theorem Bx.new (w : World) (cs : Array Value) (t : TypeId) : Bx (w.alloc (.cells cs t)) w.heap.size cs t := heap_alloc_new w _
theorem Bx.get {w : World} {g : Nat} {cs : Array Value} {t : TypeId} (h : Bx w g cs t) (i : Nat) {v : Value} (e : cs[i]? = some v) : w.cell? ⟨g, i, none⟩ = some v := by
  have h' : w.heap[g]? = some (.cells cs t (0, 0)) := h
  simp only [World.cell?, h', e]
  rfl
/-- What alike's boxes and handles hold. -/
structure AB (w0 w : World) (x y z : Nat) (sx sy : HS) (h : RH) : Prop where
  hx : Stands .u32 91 w x sx
  hy : Stands .u64 82 w y sy
  hz : Bx w z #[.int .i64 h.cap, .bool h.pr, .bool h.held, .int .u64 h.fr, .int .i64 h.n, .int .i64 h.gate, .int .i64 h.upto] 52
  B : Below w0.heap.size w0 w
theorem AB.step {w0 w w' : World} {x y z : Nat} {sx sy : HS} {h : RH} (a : AB w0 w x y z sx sy h) (b : Below w.heap.size w w') : AB w0 w' x y z sx sy h :=
  ⟨a.hx.old b, a.hy.old b, a.hz.old b, a.B.trans (b.mono a.B.size)⟩
set_option maxHeartbeats 2000000 in
theorem alikeC (x y : Nat) (cap fr n gx ux gy uy G U st : Int) (held : Bool) (w : World)
    (hx : Stands .u32 91 w x ⟨cap, false, held, fr % 4294967296, n, gx, ux⟩) (hy : Stands .u64 82 w y ⟨cap, false, held, fr, n, gy, uy⟩)
    (p1 : QGm.sakiaref01_Plus.f 32 st G = some gx) (p2 : QGm.sakiaref01_Plus.f 32 st U = some ux) (p3 : QGm.sakiaref01_Plus.f 64 st G = some gy) (p4 : QGm.sakiaref01_Plus.f 64 st U = some uy)
    (c1 : QGm.sakiaref01_Cut.f 32 fr = some (fr % 4294967296)) (r1 : d32 ux gx = wrap64 (U - G)) (r2 : d64 uy gy = wrap64 (U - G)) (g1 : IntKind.u64.wrap gx = gx) (g2 : IntKind.u64.wrap ux = ux) :
    Calls Try.prog 43 #[.pointer (some ⟨x, 0, none⟩), .pointer (some ⟨y, 0, none⟩), .agg #[.int .i64 cap, .bool false, .bool held, .int .u64 fr, .int .i64 n, .int .i64 G, .int .i64 U], .int .u64 st] w fun e w' => e = .returned (.bool true) ∧ Below w.heap.size w w' := by
  have P1 := Aside.mk p1
  have P2 := Aside.mk p2
  have P3 := Aside.mk p3
  have P4 := Aside.mk p4
  have C1 := Aside.mk c1
  have R1 := Aside.mk r1
  have R2 := Aside.mk r2
  have G1 := Aside.mk g1
  have G2 := Aside.mk g2
  clear p1 p2 p3 p4 c1 r1 r2 g1 g2
  have hu := Try.underlying69
  have hu2 := Try.underlying80
  go_enter Try.func43, Try.ntmps43
  go_wp2_with fail
  have hA := Aside.mk (AB.mk (w0 := w) (z := w.heap.size) (h := ⟨cap, false, held, fr, n, G, U⟩) (hx.old (below_alloc_ w _)) (hy.old (below_alloc_ w _)) (Bx.new w _ _) (below_alloc_ w _))
  obtain ⟨z, hzz⟩ : ∃ z, Aside (w.heap.size = z) := ⟨_, ⟨rfl⟩⟩
  rw [hzz.out] at hA ⊢
  clear hx hy
  go_at_call 44
  refine (span32 x _ _ hA.out.hx).mono ?_
  rintro e w1 ⟨rfl, b⟩
  replace hA := Aside.mk (hA.out.step b)
  clear b
  go_wp2_with fail
  have hP := Aside.mk (Bx.new w1 #[.int .u32 (fr % 4294967296), .int .i64 n] 69)
  replace hA := Aside.mk (hA.out.step (below_alloc_ w1 (.cells #[.int .u32 (fr % 4294967296), .int .i64 n] 69)))
  generalize w1.alloc (.cells #[.int .u32 (fr % 4294967296), .int .i64 n] 69) = w2 at *
  generalize w1.heap.size = p at *
  go_at_call 78
  refine (span64 y _ _ hA.out.hy).mono ?_
  rintro e w3 ⟨rfl, b⟩
  replace hA := Aside.mk (hA.out.step b)
  replace hP := Aside.mk (hP.out.old b)
  clear b
  have hQ := Aside.mk (Bx.new w3 #[.int .u64 fr, .int .i64 n] 80)
  replace hP := Aside.mk (hP.out.old (below_alloc_ w3 (.cells #[.int .u64 fr, .int .i64 n] 80)))
  replace hA := Aside.mk (hA.out.step (below_alloc_ w3 (.cells #[.int .u64 fr, .int .i64 n] 80)))
  go_wp2_with fail
  generalize w3.alloc (.cells #[.int .u64 fr, .int .i64 n] 80) = w4 at *
  generalize w3.heap.size = q at *
  have k1 := hA.out.hz.get 1 rfl
  have k2 := hA.out.hz.get 2 rfl
  have k3 := hA.out.hz.get 3 rfl
  have k4 := hA.out.hz.get 4 rfl
  have k5 := hA.out.hz.get 5 rfl
  have k6 := hA.out.hz.get 6 rfl
  have l0 := hP.out.get 0 rfl
  have l1 := hP.out.get 1 rfl
  have m0 := hQ.out.get 0 rfl
  have m1 := hQ.out.get 1 rfl
  simp only at k1 k2 k3 k4 k5 k6
  go_quiet ((go_at_call 55; refine (QGm.sakiaref01_Cut.calls _ _ _ _ C1.out).mono ?_; rintro e w' ⟨rfl, nd, rfl⟩; exact ⟨rfl, _, World.drewN_drewN _ _ _⟩))
  replace hA := Aside.mk (hA.out.step (below_drewN_ w4 nq))
  clear k1 k2 k3 k4 k5 k6 l0 l1 m0 m1 hP hQ
  generalize w4.drewN nq = w5 at *
  have k1 := hA.out.hz.get 1 rfl
  have k2 := hA.out.hz.get 2 rfl
  have k3 := hA.out.hz.get 3 rfl
  have k4 := hA.out.hz.get 4 rfl
  have k5 := hA.out.hz.get 5 rfl
  have k6 := hA.out.hz.get 6 rfl
  simp only at k1 k2 k3 k4 k5 k6
  go_wp2_with fail
  have r1 := R1.out
  have r2 := R2.out
  go_quiet (first | (go_at_call 46; (with_reducible refine (ready32 x _ _ (by first | exact hA.out.hx | exact hA.out.hx.drewN _)).mono ?_); rintro e w' ⟨rfl, nd, rfl⟩; exact ⟨rfl, _, World.drewN_drewN _ _ _⟩) | (go_at_call 29; (with_reducible refine (ready64 y _ _ (by first | exact hA.out.hy | exact hA.out.hy.drewN _)).mono ?_); rintro e w' ⟨rfl, nd, rfl⟩; exact ⟨rfl, _, World.drewN_drewN _ _ _⟩))
  clear r1 r2
  replace hA := Aside.mk (hA.out.step (below_drewN_ w5 nq))
  clear k1 k2 k3 k4 k5 k6
  generalize w5.drewN nq = w6 at *
  have k1 := hA.out.hz.get 1 rfl
  have k2 := hA.out.hz.get 2 rfl
  have k3 := hA.out.hz.get 3 rfl
  have k4 := hA.out.hz.get 4 rfl
  have k5 := hA.out.hz.get 5 rfl
  have k6 := hA.out.hz.get 6 rfl
  simp only at k1 k2 k3 k4 k5 k6
  have g1 := G1.out
  have g2 := G2.out
  go_wp2_with fail
  go_quiet (first | (go_at_call 45; (with_reducible refine (gate32 x _ _ (by first | exact hA.out.hx | exact hA.out.hx.drewN _)).mono ?_); rintro e w' ⟨rfl, rfl⟩; exact ⟨rfl, _, rfl⟩) | (go_at_call 80; (with_reducible refine (upto32 x _ _ (by first | exact hA.out.hx | exact hA.out.hx.drewN _)).mono ?_); rintro e w' ⟨rfl, rfl⟩; exact ⟨rfl, _, rfl⟩) | (go_at_call 25; (with_reducible refine (gate64 y _ _ (by first | exact hA.out.hy | exact hA.out.hy.drewN _)).mono ?_); rintro e w' ⟨rfl, rfl⟩; exact ⟨rfl, _, rfl⟩) | (go_at_call 26; (with_reducible refine (upto64 y _ _ (by first | exact hA.out.hy | exact hA.out.hy.drewN _)).mono ?_); rintro e w' ⟨rfl, rfl⟩; exact ⟨rfl, _, rfl⟩) | (go_at_call 79; (with_reducible refine (QGm.sakiaref01_Plus.calls 32 st G gx _ P1.out).mono ?_); rintro e w' ⟨rfl, nd, rfl⟩; exact ⟨rfl, _, World.drewN_drewN _ _ _⟩) | (go_at_call 79; (with_reducible refine (QGm.sakiaref01_Plus.calls 32 st U ux _ P2.out).mono ?_); rintro e w' ⟨rfl, nd, rfl⟩; exact ⟨rfl, _, World.drewN_drewN _ _ _⟩) | (go_at_call 79; (with_reducible refine (QGm.sakiaref01_Plus.calls 64 st G gy _ P3.out).mono ?_); rintro e w' ⟨rfl, nd, rfl⟩; exact ⟨rfl, _, World.drewN_drewN _ _ _⟩) | (go_at_call 79; (with_reducible refine (QGm.sakiaref01_Plus.calls 64 st U uy _ P4.out).mono ?_); rintro e w' ⟨rfl, nd, rfl⟩; exact ⟨rfl, _, World.drewN_drewN _ _ _⟩))
  go_wp2
  go_ret
  exact ⟨rfl, hA.out.B.drewN_ _⟩
set_option maxHeartbeats 2000000 in
theorem alikeP (x y : Nat) (cap fr n st : Int) (held : Bool) (w : World)
    (hx : Stands .u32 91 w x ⟨cap, true, held, fr % 4294967296, n, 0, 0⟩) (hy : Stands .u64 82 w y ⟨cap, true, held, fr, n, 0, 0⟩)
    (c1 : QGm.sakiaref01_Cut.f 32 fr = some (fr % 4294967296)) :
    Calls Try.prog 43 #[.pointer (some ⟨x, 0, none⟩), .pointer (some ⟨y, 0, none⟩), .agg #[.int .i64 cap, .bool true, .bool held, .int .u64 fr, .int .i64 n, .int .i64 0, .int .i64 0], .int .u64 st] w fun e w' => e = .returned (.bool true) ∧ Below w.heap.size w w' := by
  have C1 := Aside.mk c1
  have R1 := Aside.mk (show d32 0 0 = 0 by decide +kernel)
  have R2 := Aside.mk (show d64 0 0 = 0 by decide +kernel)
  clear c1
  have hu := Try.underlying69
  have hu2 := Try.underlying80
  go_enter Try.func43, Try.ntmps43
  go_wp2_with fail
  have hA := Aside.mk (AB.mk (w0 := w) (z := w.heap.size) (h := ⟨cap, true, held, fr, n, 0, 0⟩) (hx.old (below_alloc_ w _)) (hy.old (below_alloc_ w _)) (Bx.new w _ _) (below_alloc_ w _))
  obtain ⟨z, hzz⟩ : ∃ z, Aside (w.heap.size = z) := ⟨_, ⟨rfl⟩⟩
  rw [hzz.out] at hA ⊢
  clear hx hy
  go_at_call 44
  refine (span32 x _ _ hA.out.hx).mono ?_
  rintro e w1 ⟨rfl, b⟩
  replace hA := Aside.mk (hA.out.step b)
  clear b
  go_wp2_with fail
  have hP := Aside.mk (Bx.new w1 #[.int .u32 (fr % 4294967296), .int .i64 n] 69)
  replace hA := Aside.mk (hA.out.step (below_alloc_ w1 (.cells #[.int .u32 (fr % 4294967296), .int .i64 n] 69)))
  generalize w1.alloc (.cells #[.int .u32 (fr % 4294967296), .int .i64 n] 69) = w2 at *
  generalize w1.heap.size = p at *
  go_at_call 78
  refine (span64 y _ _ hA.out.hy).mono ?_
  rintro e w3 ⟨rfl, b⟩
  replace hA := Aside.mk (hA.out.step b)
  replace hP := Aside.mk (hP.out.old b)
  clear b
  have hQ := Aside.mk (Bx.new w3 #[.int .u64 fr, .int .i64 n] 80)
  replace hP := Aside.mk (hP.out.old (below_alloc_ w3 (.cells #[.int .u64 fr, .int .i64 n] 80)))
  replace hA := Aside.mk (hA.out.step (below_alloc_ w3 (.cells #[.int .u64 fr, .int .i64 n] 80)))
  go_wp2_with fail
  generalize w3.alloc (.cells #[.int .u64 fr, .int .i64 n] 80) = w4 at *
  generalize w3.heap.size = q at *
  have k1 := hA.out.hz.get 1 rfl
  have k2 := hA.out.hz.get 2 rfl
  have k3 := hA.out.hz.get 3 rfl
  have k4 := hA.out.hz.get 4 rfl
  have k5 := hA.out.hz.get 5 rfl
  have k6 := hA.out.hz.get 6 rfl
  have l0 := hP.out.get 0 rfl
  have l1 := hP.out.get 1 rfl
  have m0 := hQ.out.get 0 rfl
  have m1 := hQ.out.get 1 rfl
  simp only at k1 k2 k3 k4 k5 k6
  go_quiet ((go_at_call 55; refine (QGm.sakiaref01_Cut.calls _ _ _ _ C1.out).mono ?_; rintro e w' ⟨rfl, nd, rfl⟩; exact ⟨rfl, _, World.drewN_drewN _ _ _⟩))
  replace hA := Aside.mk (hA.out.step (below_drewN_ w4 nq))
  clear k1 k2 k3 k4 k5 k6 l0 l1 m0 m1 hP hQ
  generalize w4.drewN nq = w5 at *
  have k1 := hA.out.hz.get 1 rfl
  have k2 := hA.out.hz.get 2 rfl
  have k3 := hA.out.hz.get 3 rfl
  have k4 := hA.out.hz.get 4 rfl
  have k5 := hA.out.hz.get 5 rfl
  have k6 := hA.out.hz.get 6 rfl
  simp only at k1 k2 k3 k4 k5 k6
  go_wp2_with fail
  have r1 := R1.out
  have r2 := R2.out
  go_quiet (first | (go_at_call 46; (with_reducible refine (ready32 x _ _ (by first | exact hA.out.hx | exact hA.out.hx.drewN _)).mono ?_); rintro e w' ⟨rfl, nd, rfl⟩; exact ⟨rfl, _, World.drewN_drewN _ _ _⟩) | (go_at_call 29; (with_reducible refine (ready64 y _ _ (by first | exact hA.out.hy | exact hA.out.hy.drewN _)).mono ?_); rintro e w' ⟨rfl, nd, rfl⟩; exact ⟨rfl, _, World.drewN_drewN _ _ _⟩))
  clear r1 r2
  replace hA := Aside.mk (hA.out.step (below_drewN_ w5 nq))
  clear k1 k2 k3 k4 k5 k6
  generalize w5.drewN nq = w6 at *
  have k1 := hA.out.hz.get 1 rfl
  have k2 := hA.out.hz.get 2 rfl
  have k3 := hA.out.hz.get 3 rfl
  have k4 := hA.out.hz.get 4 rfl
  have k5 := hA.out.hz.get 5 rfl
  have k6 := hA.out.hz.get 6 rfl
  simp only at k1 k2 k3 k4 k5 k6
  go_wp2_with (first | (go_at_call 45; (with_reducible refine (gate32 x _ _ hA.out.hx).mono ?_); rintro e w' ⟨rfl, rfl⟩) | (go_at_call 26; (with_reducible refine (upto64 y _ _ hA.out.hy).mono ?_); rintro e w' ⟨rfl, rfl⟩))
  go_ret
  exact ⟨rfl, hA.out.B⟩
end Go.Proofs.Ytkakgmpcenfjlaa.Handle
