/- The program's line of an event: walked. Asked: the library's variables lie as laid. -/
import Derived.Test.YtabcdcnnamflfaaDoorTlL
import Derived.Test.YtabcdcnnamflfaaDoorWdF
import Derived.Deep.RegionHeld3
set_option linter.unusedVariables false
set_option linter.unusedSimpArgs false
set_option maxRecDepth 100000
namespace Go.Proofs.YtabcdcnnamflfaaDoor.Wd
open Go.RowKit Go.Proofs.YtabcdcnnamflfaaDoorW.PrintWords Go.Proofs.YtabcdcnnamflfaaDoorW.PrintLast Go.Proofs.YtabcdcnnamflfaaDoorW.PrintMore
open QTe (EvOk In64)
theorem blk_cell7 {w : World} {g : Nat} {c0 c1 c2 c3 c4 c5 c6 : Value} {t : TypeId} (h : w.heap[g]? = some (.cells #[c0, c1, c2, c3, c4, c5, c6] t (0, 0))) :
    w.cell? ⟨g, 0, none⟩ = some c0 ∧ w.cell? ⟨g, 1, none⟩ = some c1 ∧ w.cell? ⟨g, 2, none⟩ = some c2 ∧ w.cell? ⟨g, 3, none⟩ = some c3 ∧ w.cell? ⟨g, 4, none⟩ = some c4 ∧ w.cell? ⟨g, 5, none⟩ = some c5 ∧ w.cell? ⟨g, 6, none⟩ = some c6 := by
  refine ⟨?_, ?_, ?_, ?_, ?_, ?_, ?_⟩ <;> simp [World.cell?, h]
theorem join_head (x : List UInt8) (r s : List (List UInt8)) : Lib.join (Lib.join (x :: r) [32] :: s) [32] = Lib.join (x :: (r ++ s)) [32] := by
  rw [Lib.join_cons, Lib.join_cons, Lib.join_cons]
  simp [Lib.joinTail]
theorem wlen (ws : List (List UInt8)) (h : ∀ w ∈ ws, w.length ≤ 3000000) (hn : ws.length ≤ 8) : (Lib.join ws [32]).length ≤ 140737488355328 := by
  have h1 := join_len 3000000 ws 32 h
  have h2 : (3000000 + 1) * ws.length ≤ 3000001 * 8 := Nat.mul_le_mul_left _ hn
  omega
/-- A row of texts that was just built. -/
theorem lit_txt (w : World) (ws : List (List UInt8)) (cs : Array Value) (h : cs = (ws.map fun x => Value.string (bs x)).toArray) : Txts (w.alloc (.cells cs 9)) (some ⟨w.heap.size, 0, none⟩) ws := fun _ => by
  refine ⟨_, cs, rfl, heap_alloc_new _ _, fun j hj => ?_⟩
  subst h
  simp [List.getElem?_eq_getElem hj]
theorem tline_ {w : World} {g cap : Nat} {ws : List (List UInt8)} (h : Txts w (some ⟨g, 0, none⟩) ws) (h0 : 0 < ws.length) (hcap : ws.length ≤ cap) (hlen : (Lib.join ws [32]).length ≤ 140737488355328) (hn : ws.length ≤ 140737488355328) :
    Calls Tryd.prog 66 #[.slice (some ⟨g, 0, none⟩) ws.length cap] w fun e w' => e = .returned (.string (bs (Lib.join ws [32]))) ∧ Below w.heap.size w w' := by
  have H := Aside.mk (joinC 32 h h0 hcap hlen hn)
  clear h h0 hcap hlen hn
  go_enter Tryd.func66, Tryd.ntmps66
  go_wp2_with (go_at_call 56; refine H.out.mono ?_; rintro e w' ⟨rfl, hb⟩)
  go_ret
  exact ⟨rfl, hb⟩
/-- The line of some words that were just laid in a row. -/
theorem lineN (w : World) (ws : List (List UInt8)) (cs : Array Value) (n : Nat) (h : cs = (ws.map fun x => Value.string (bs x)).toArray) (hn : ws.length = n) (h0 : 0 < n) (h1 : n ≤ 100) (hlen : (Lib.join ws [32]).length ≤ 140737488355328) :
    Calls Tryd.prog 66 #[.slice (some ⟨w.heap.size, 0, none⟩) n n] (w.alloc (.cells cs 9)) fun e w' => e = .returned (.string (bs (Lib.join ws [32]))) ∧ Below (w.alloc (.cells cs 9)).heap.size (w.alloc (.cells cs 9)) w' := by
  subst hn
  refine (tline_ (lit_txt w ws cs h) h0 (Nat.le_refl _) hlen (by omega)).mono ?_
  rintro e w' ⟨rfl, hb⟩
  exact ⟨rfl, hb⟩
theorem line2 (w : World) (x0 x1 : List UInt8) (hlen : (Lib.join [x0, x1] [32]).length ≤ 140737488355328) : Calls Tryd.prog 66 #[.slice (some ⟨w.heap.size, 0, none⟩) 2 2] (w.alloc (.cells #[.string (bs x0), .string (bs x1)] 9)) fun e w' => e = .returned (.string (bs (Lib.join [x0, x1] [32]))) ∧ Below (w.alloc (.cells #[.string (bs x0), .string (bs x1)] 9)).heap.size (w.alloc (.cells #[.string (bs x0), .string (bs x1)] 9)) w' :=
  lineN w [x0, x1] _ 2 rfl rfl (by omega) (by omega) hlen
theorem line3 (w : World) (x0 x1 x2 : List UInt8) (hlen : (Lib.join [x0, x1, x2] [32]).length ≤ 140737488355328) : Calls Tryd.prog 66 #[.slice (some ⟨w.heap.size, 0, none⟩) 3 3] (w.alloc (.cells #[.string (bs x0), .string (bs x1), .string (bs x2)] 9)) fun e w' => e = .returned (.string (bs (Lib.join [x0, x1, x2] [32]))) ∧ Below (w.alloc (.cells #[.string (bs x0), .string (bs x1), .string (bs x2)] 9)).heap.size (w.alloc (.cells #[.string (bs x0), .string (bs x1), .string (bs x2)] 9)) w' :=
  lineN w [x0, x1, x2] _ 3 rfl rfl (by omega) (by omega) hlen
theorem line4 (w : World) (x0 x1 x2 x3 : List UInt8) (hlen : (Lib.join [x0, x1, x2, x3] [32]).length ≤ 140737488355328) : Calls Tryd.prog 66 #[.slice (some ⟨w.heap.size, 0, none⟩) 4 4] (w.alloc (.cells #[.string (bs x0), .string (bs x1), .string (bs x2), .string (bs x3)] 9)) fun e w' => e = .returned (.string (bs (Lib.join [x0, x1, x2, x3] [32]))) ∧ Below (w.alloc (.cells #[.string (bs x0), .string (bs x1), .string (bs x2), .string (bs x3)] 9)).heap.size (w.alloc (.cells #[.string (bs x0), .string (bs x1), .string (bs x2), .string (bs x3)] 9)) w' :=
  lineN w [x0, x1, x2, x3] _ 4 rfl rfl (by omega) (by omega) hlen
theorem line6 (w : World) (x0 x1 x2 x3 x4 x5 : List UInt8) (hlen : (Lib.join [x0, x1, x2, x3, x4, x5] [32]).length ≤ 140737488355328) : Calls Tryd.prog 66 #[.slice (some ⟨w.heap.size, 0, none⟩) 6 6] (w.alloc (.cells #[.string (bs x0), .string (bs x1), .string (bs x2), .string (bs x3), .string (bs x4), .string (bs x5)] 9)) fun e w' => e = .returned (.string (bs (Lib.join [x0, x1, x2, x3, x4, x5] [32]))) ∧ Below (w.alloc (.cells #[.string (bs x0), .string (bs x1), .string (bs x2), .string (bs x3), .string (bs x4), .string (bs x5)] 9)).heap.size (w.alloc (.cells #[.string (bs x0), .string (bs x1), .string (bs x2), .string (bs x3), .string (bs x4), .string (bs x5)] 9)) w' :=
  lineN w [x0, x1, x2, x3, x4, x5] _ 6 rfl rfl (by omega) (by omega) hlen
theorem topx_ (n : Int) (hn : In64 n) (w : World) (hw : LibW w) : Calls Tryd.prog 68 #[.int .i64 n] w fun e w' => e = .returned (.string (bs (opX n))) ∧ Below w.heap.size w w' := by
  have H := Aside.mk (evOpWord_ n w)
  have H2 := Aside.mk (fun w' (b : Below w.heap.size w w') => show_ n hn.1 hn.2 w' (hw.below b))
  rcases opX_cases n with ⟨_, _, h1, _, h2⟩ | ⟨_, h1, _, h2⟩
  · have q1 : (!(bs (opT n)).toList.isEmpty) = true := by rw [bs_toList]; cases h : opT n with
      | nil => exact absurd h h2
      | cons a l => rfl
    rw [h1]
    clear h1 h2 hw hn
    go_enter Tryd.func68, Tryd.ntmps68
    go_wp2_with (go_at_call 88; refine H.out.mono ?_; rintro e w' ⟨rfl, hb⟩)
    go_ret
    exact ⟨rfl, hb⟩
  · have q1 : (!(bs (opT n)).toList.isEmpty) = false := by rw [bs_toList, h2]; rfl
    rw [h1]
    clear h1 h2 hw hn
    go_enter Tryd.func68, Tryd.ntmps68
    go_wp2_with (first | (go_at_call 88; refine H.out.mono ?_; rintro e w' ⟨rfl, hb⟩; have HB := Aside.mk hb; clear hb) | (go_at_call 24; refine (H2.out _ HB.out).mono ?_; rintro e w2 ⟨rfl, hb2⟩))
    go_ret
    exact ⟨rfl, HB.out.trans (hb2.mono HB.out.size)⟩
/-! ### an event in a box of its own -/
structure EB (w0 w : World) (g : Nat) (A : Option Addr) (c : Nat) (k t o n p z : Int) (d : List Int) : Prop where
  B : Below w0.heap.size w0 w
  bx : w.heap[g]? = some (.cells #[.int .i64 k, .int .i64 t, .int .i64 o, .int .i64 n, .int .u64 p, .int .i64 z, .slice A d.length c] 76 (0, 0))
  rd : Rv w A c d
  lib : LibW w
section
variable {w0 w : World} {g : Nat} {A : Option Addr} {c : Nat} {k t o n p z : Int} {d : List Int}
theorem EB.step {w' : World} (h : EB w0 w g A c k t o n p z d) (b : Below w.heap.size w w') : EB w0 w' g A c k t o n p z d :=
  ⟨h.B.trans (b.mono h.B.size), blk_below h.bx b, h.rd.below b, h.lib.below b⟩
theorem EB.start (w : World) (A : Option Addr) (c : Nat) (k t o n p z : Int) (d : List Int) (h : Rv w A c d) (hl : LibW w) :
    EB w (w.alloc (.cells #[.int .i64 k, .int .i64 t, .int .i64 o, .int .i64 n, .int .u64 p, .int .i64 z, .slice A d.length c] 76)) w.heap.size A c k t o n p z d :=
  ⟨below_alloc (Below.refl _ _) _, heap_alloc_new _ _, h.below (below_alloc (Below.refl _ _) _), hl.below (below_alloc (Below.refl _ _) _)⟩
theorem keepE {w' : World} (b : Below w.heap.size w w') (h : w.cell? ⟨g, 0, none⟩ = some (.int .i64 k) ∧ w.cell? ⟨g, 1, none⟩ = some (.int .i64 t) ∧ w.cell? ⟨g, 2, none⟩ = some (.int .i64 o) ∧ w.cell? ⟨g, 3, none⟩ = some (.int .i64 n) ∧ w.cell? ⟨g, 4, none⟩ = some (.int .u64 p) ∧ w.cell? ⟨g, 5, none⟩ = some (.int .i64 z) ∧ w.cell? ⟨g, 6, none⟩ = some (.slice A d.length c) ∧ EB w0 w g A c k t o n p z d) :
    w'.cell? ⟨g, 0, none⟩ = some (.int .i64 k) ∧ w'.cell? ⟨g, 1, none⟩ = some (.int .i64 t) ∧ w'.cell? ⟨g, 2, none⟩ = some (.int .i64 o) ∧ w'.cell? ⟨g, 3, none⟩ = some (.int .i64 n) ∧ w'.cell? ⟨g, 4, none⟩ = some (.int .u64 p) ∧ w'.cell? ⟨g, 5, none⟩ = some (.int .i64 z) ∧ w'.cell? ⟨g, 6, none⟩ = some (.slice A d.length c) ∧ EB w0 w' g A c k t o n p z d := by
  obtain ⟨h0, h1, h2, h3, h4, h5, h6, hx⟩ := h
  have hy := hx.step b
  obtain ⟨d0, d1, d2, d3, d4, d5, d6⟩ := blk_cell7 hy.bx
  exact ⟨d0, d1, d2, d3, d4, d5, d6, hy⟩
theorem keepA (o' : Obj) (h : w.cell? ⟨g, 0, none⟩ = some (.int .i64 k) ∧ w.cell? ⟨g, 1, none⟩ = some (.int .i64 t) ∧ w.cell? ⟨g, 2, none⟩ = some (.int .i64 o) ∧ w.cell? ⟨g, 3, none⟩ = some (.int .i64 n) ∧ w.cell? ⟨g, 4, none⟩ = some (.int .u64 p) ∧ w.cell? ⟨g, 5, none⟩ = some (.int .i64 z) ∧ w.cell? ⟨g, 6, none⟩ = some (.slice A d.length c) ∧ EB w0 w g A c k t o n p z d) :
    (w.alloc o').cell? ⟨g, 0, none⟩ = some (.int .i64 k) ∧ (w.alloc o').cell? ⟨g, 1, none⟩ = some (.int .i64 t) ∧ (w.alloc o').cell? ⟨g, 2, none⟩ = some (.int .i64 o) ∧ (w.alloc o').cell? ⟨g, 3, none⟩ = some (.int .i64 n) ∧ (w.alloc o').cell? ⟨g, 4, none⟩ = some (.int .u64 p) ∧ (w.alloc o').cell? ⟨g, 5, none⟩ = some (.int .i64 z) ∧ (w.alloc o').cell? ⟨g, 6, none⟩ = some (.slice A d.length c) ∧ EB w0 (w.alloc o') g A c k t o n p z d :=
  keepE (below_alloc (Below.refl _ _) _) h
theorem ofE (h : w.cell? ⟨g, 0, none⟩ = some (.int .i64 k) ∧ w.cell? ⟨g, 1, none⟩ = some (.int .i64 t) ∧ w.cell? ⟨g, 2, none⟩ = some (.int .i64 o) ∧ w.cell? ⟨g, 3, none⟩ = some (.int .i64 n) ∧ w.cell? ⟨g, 4, none⟩ = some (.int .u64 p) ∧ w.cell? ⟨g, 5, none⟩ = some (.int .i64 z) ∧ w.cell? ⟨g, 6, none⟩ = some (.slice A d.length c) ∧ EB w0 w g A c k t o n p z d) : EB w0 w g A c k t o n p z d := h.2.2.2.2.2.2.2
end
theorem tclean_ (e : Ev) (A : Option Addr) (c : Nat) (w : World) (h : Rv w A c e.data) : Calls Tryd.prog 44 #[.agg #[.int .i64 e.kind, .int .i64 e.thread, .int .i64 e.op, .int .i64 e.n, .int .u64 e.pos, .int .i64 e.code, .slice A e.data.length c]] w fun r w' => r = .returned (.bool (cleanB e)) ∧ Below w.heap.size w w' :=
  QTe.tell_Clean.calls 5 _ _ _ _ _ _ A c e.data _ w h.rd h.cap (QTe.clean_f e)
set_option maxHeartbeats 8000000 in
theorem line_e (e : Ev) (A : Option Addr) (c : Nat) (w : World) (h : Rv w A c e.data) (ho : EvOk e) (hl : e.data.length ≤ 100000) (hw : LibW w) : Calls Tryd.prog 43 #[.agg #[.int .i64 e.kind, .int .i64 e.thread, .int .i64 e.op, .int .i64 e.n, .int .u64 e.pos, .int .i64 e.code, .slice A e.data.length c]] w fun r w' => r = .returned (.string (bs (lineE e))) ∧ Below w.heap.size w w' := by
  have HC := Aside.mk (tclean_ e A c)
  obtain ⟨k, t, o, n, p, z, d⟩ := e
  simp only at *
  have H1 := Aside.mk (EB.start w A c k t o n p z d h hw)
  have HU := Tryd.underlying76
  cases hc : cleanB ⟨k, t, o, n, p, z, d⟩ with
  | false =>
    have HE := Aside.mk (lineE_none hc)
    rw [hc] at HC
    clear h hw ho hl hc
    go_enter Tryd.func43, Tryd.ntmps43
    go_wp2_with (go_at_call 44; refine (HC.out _ H1.out.rd).mono ?_; rintro e w' ⟨rfl, hb⟩; have HB := Aside.mk hb; clear hb)
    go_ret
    exact ⟨by rw [HE.out]; rfl, H1.out.B.trans (HB.out.mono H1.out.B.size)⟩
  | true =>
    have hk := clean_kind hc
    have HE := Aside.mk (lineE_clean hc).1
    rw [hc] at HC
    have HO := Aside.mk ho
    have HL := Aside.mk hl
    have HP := Aside.mk (show ∃ m : Nat, p = (m : Int) ∧ m < 18446744073709551616 from ⟨p.toNat, by have := ho.p; simp only at this; omega, by have := ho.p; simp only at this; omega⟩)
    have hk2 : k = 1 ∨ k = 2 ∨ k = 3 ∨ k = 4 ∨ k = 5 ∨ k = 6 ∨ k = 7 := by simp only at hk; omega
    have HK := Aside.mk hk2
    have HJ := Aside.mk (show (Lib.itoa t).length ≤ 3000000 ∧ (Lib.itoa n).length ≤ 3000000 ∧ (Lib.itoa z).length ≤ 3000000 ∧ (opX o).length ≤ 3000000 ∧ (Lib.decDigits p.toNat).length ≤ 3000000 ∧ (listTxt d).length ≤ 3000000 ∧ (kindT k).length ≤ 3000000 ∧ (Lib.join [Lib.itoa t, kindT k] [32]).length ≤ 3000000 from by
      have l1 := itoa_len t ho.t.1 ho.t.2
      have l2 := itoa_len n ho.n.1 ho.n.2
      have l3 := itoa_len z ho.c.1 ho.c.2
      have l4 := QTe.opX_len ho.o
      have l5 := dec_len p.toNat (by have := ho.p; simp only at this; omega)
      have l6 := QTe.listTxt_len ⟨ho.d, hl⟩
      have l7 := QTe.kindT_len k
      have l8 : (Lib.join [Lib.itoa t, kindT k] [32]).length ≤ 28 := by
        rw [Lib.join_cons, joinTail_cons]; simp [Lib.joinTail]; omega
      simp only at l4 l6
      omega)
    have HJ1 := Aside.mk (show (Lib.join [Lib.itoa t, kindT k] [32]).length ≤ 140737488355328 by have := HJ.out; omega)
    clear h hw ho hl hc hk hk2
    go_enter Tryd.func43, Tryd.ntmps43
    go_wp2_with (go_at_call 44; refine (HC.out _ H1.out.rd).mono ?_; rintro e w' ⟨rfl, hb⟩; have H2 := Aside.mk (H1.out.step hb); clear hb H1)
    clear HC
    generalize w.heap.size = g at *
    obtain ⟨m, rfl, hm⟩ := HP.out
    have HM := Aside.mk hm
    clear hm HP
    obtain ⟨d0, d1, d2, d3, d4, d5, d6⟩ := blk_cell7 H2.out.bx
    have H2' := H2.out
    have hHD := keepE (below_drew1 (Below.refl _ w')) ⟨d0, d1, d2, d3, d4, d5, d6, H2'⟩
    go_region_held3 (fun w' => w'.cell? ⟨g, 0, none⟩ = some (.int .i64 k) ∧ w'.cell? ⟨g, 1, none⟩ = some (.int .i64 t) ∧ w'.cell? ⟨g, 2, none⟩ = some (.int .i64 o) ∧ w'.cell? ⟨g, 3, none⟩ = some (.int .i64 n) ∧ w'.cell? ⟨g, 4, none⟩ = some (.int .u64 (m : Int)) ∧ w'.cell? ⟨g, 5, none⟩ = some (.int .i64 z) ∧ w'.cell? ⟨g, 6, none⟩ = some (.slice A d.length c) ∧ EB w w' g A c k t o n (m : Int) z d) (first | exact hHD | (with_reducible exact keepE (by assumption) (by assumption)) | (with_reducible exact keepA _ (by assumption)))
      (first | (go_at_call 24; refine (show_ t HO.out.t.1 HO.out.t.2 _ (ofE (by assumption)).lib).mono ?_; rintro e w2 ⟨rfl, b⟩) | (go_at_call 67; refine (evWord_ k _).mono ?_; rintro e w2 ⟨rfl, b⟩) | (go_at_call 66; refine (line2 _ (Lib.itoa t) (kindT k) HJ1.out).mono ?_; rintro e w2 ⟨rfl, b⟩))
    have H3 := Aside.mk (ofE (by assumption : (w2.cell? ⟨g, 0, none⟩ = some (.int .i64 k) ∧ w2.cell? ⟨g, 1, none⟩ = some (.int .i64 t) ∧ w2.cell? ⟨g, 2, none⟩ = some (.int .i64 o) ∧ w2.cell? ⟨g, 3, none⟩ = some (.int .i64 n) ∧ w2.cell? ⟨g, 4, none⟩ = some (.int .u64 (m : Int)) ∧ w2.cell? ⟨g, 5, none⟩ = some (.int .i64 z) ∧ w2.cell? ⟨g, 6, none⟩ = some (.slice A d.length c) ∧ EB w w2 g A c k t o n (m : Int) z d)))
    clear d0 d1 d2 d3 d4 d5 d6 H2' hHD H2 b
    clear HJ1
    go_wp2_with fail
    obtain ⟨d0, d1, d2, d3, d4, d5, d6⟩ := blk_cell7 H3.out.bx
    have H3' := H3.out
    have hHD := keepE (below_drew1 (Below.refl _ w2)) ⟨d0, d1, d2, d3, d4, d5, d6, H3'⟩
    go_region_held3 (fun w' => w'.cell? ⟨g, 0, none⟩ = some (.int .i64 k) ∧ w'.cell? ⟨g, 1, none⟩ = some (.int .i64 t) ∧ w'.cell? ⟨g, 2, none⟩ = some (.int .i64 o) ∧ w'.cell? ⟨g, 3, none⟩ = some (.int .i64 n) ∧ w'.cell? ⟨g, 4, none⟩ = some (.int .u64 (m : Int)) ∧ w'.cell? ⟨g, 5, none⟩ = some (.int .i64 z) ∧ w'.cell? ⟨g, 6, none⟩ = some (.slice A d.length c) ∧ EB w w' g A c k t o n (m : Int) z d) (first | exact hHD | (with_reducible exact keepE (by assumption) (by assumption)) | (with_reducible exact keepA _ (by assumption)))
      (first | (go_at_call 24; refine (show_ n HO.out.n.1 HO.out.n.2 _ (ofE (by assumption)).lib).mono ?_; rintro e w3 ⟨rfl, b⟩) | (go_at_call 25; refine (showBig_ m HM.out _ (ofE (by assumption)).lib).mono ?_; rintro e w3 ⟨rfl, b⟩) | (go_at_call 26; refine (showList_ (ofE (by assumption)).rd HL.out (ofE (by assumption)).lib).mono ?_; rintro e w3 ⟨rfl, b⟩))
    have H4 := Aside.mk (ofE (by assumption : (w3.cell? ⟨g, 0, none⟩ = some (.int .i64 k) ∧ w3.cell? ⟨g, 1, none⟩ = some (.int .i64 t) ∧ w3.cell? ⟨g, 2, none⟩ = some (.int .i64 o) ∧ w3.cell? ⟨g, 3, none⟩ = some (.int .i64 n) ∧ w3.cell? ⟨g, 4, none⟩ = some (.int .u64 (m : Int)) ∧ w3.cell? ⟨g, 5, none⟩ = some (.int .i64 z) ∧ w3.cell? ⟨g, 6, none⟩ = some (.slice A d.length c) ∧ EB w w3 g A c k t o n (m : Int) z d)))
    clear d0 d1 d2 d3 d4 d5 d6 H3' hHD H3 b
    rw [show ((m : Int).toNat) = m from rfl] at HJ
    obtain ⟨d0, d1, d2, d3, d4, d5, d6⟩ := blk_cell7 H4.out.bx
    rcases HK.out with h | h | h | h | h | h | h
    · have q1 : (k == 1) = true := by rw [h]; rfl
      have q2 : (k == 2) = false := by rw [h]; rfl
      have q3 : (k == 3) = false := by rw [h]; rfl
      have q5 : (k == 5) = false := by rw [h]; rfl
      have q6 : (k == 6) = false := by rw [h]; rfl
      have q7 : (k == 7) = false := by rw [h]; rfl
      have HK2 := Aside.mk h
      clear h HK
      have HJ2 := Aside.mk (wlen [Lib.join [Lib.itoa t, kindT k] [32], opX o, Lib.itoa n, listTxt d] (by
        obtain ⟨l1, l2, l3, l4, l5, l6, l7, l8⟩ := HJ.out
        intro x hx
        simp only [List.mem_cons, List.not_mem_nil, or_false] at hx
        rcases hx with rfl | rfl | rfl | rfl <;> assumption) (by simp))
      clear HJ
      go_wp2_with (first | (go_at_call 68; refine (topx_ o HO.out.o _ H4.out.lib).mono ?_; rintro e w5 ⟨rfl, b⟩; replace H4 := Aside.mk (H4.out.step b); clear b) | (go_at_call 66; refine (line4 _ (Lib.join [Lib.itoa t, kindT k] [32]) (opX o) (Lib.itoa n) (listTxt d) HJ2.out).mono ?_; rintro e w4 ⟨rfl, b⟩; have HB9 := Aside.mk b; clear b))
      refine bodyPost_ret (v := .string (bs (Lib.join [Lib.join [Lib.itoa t, kindT k] [32], opX o, Lib.itoa n, listTxt d] [32]))) ?_ ?_ ?_
      · simp [results, Tryd.results43, go_sem]
      · rfl
      · exact ⟨by rw [HE.out, join_head, HK2.out]; rfl, (H4.out.step (below_alloc (Below.refl _ _) _)).B.trans (HB9.out.mono (H4.out.step (below_alloc (Below.refl _ _) _)).B.size)⟩
    · have q1 : (k == 1) = false := by rw [h]; rfl
      have q2 : (k == 2) = true := by rw [h]; rfl
      have q3 : (k == 3) = false := by rw [h]; rfl
      have q5 : (k == 5) = false := by rw [h]; rfl
      have q6 : (k == 6) = false := by rw [h]; rfl
      have q7 : (k == 7) = false := by rw [h]; rfl
      have HK2 := Aside.mk h
      clear h HK
      have HJ2 := Aside.mk (wlen [Lib.join [Lib.itoa t, kindT k] [32], opX o, Lib.itoa z, Lib.decDigits m, Lib.itoa n, listTxt d] (by
        obtain ⟨l1, l2, l3, l4, l5, l6, l7, l8⟩ := HJ.out
        intro x hx
        simp only [List.mem_cons, List.not_mem_nil, or_false] at hx
        rcases hx with rfl | rfl | rfl | rfl | rfl | rfl <;> assumption) (by simp))
      clear HJ
      go_wp2_with fail
      have H4' := H4.out
      have hHD := keepE (below_drew1 (Below.refl _ w3)) ⟨d0, d1, d2, d3, d4, d5, d6, H4'⟩
      go_region_held3 (fun w' => w'.cell? ⟨g, 0, none⟩ = some (.int .i64 k) ∧ w'.cell? ⟨g, 1, none⟩ = some (.int .i64 t) ∧ w'.cell? ⟨g, 2, none⟩ = some (.int .i64 o) ∧ w'.cell? ⟨g, 3, none⟩ = some (.int .i64 n) ∧ w'.cell? ⟨g, 4, none⟩ = some (.int .u64 (m : Int)) ∧ w'.cell? ⟨g, 5, none⟩ = some (.int .i64 z) ∧ w'.cell? ⟨g, 6, none⟩ = some (.slice A d.length c) ∧ EB w w' g A c k t o n (m : Int) z d) (first | exact hHD | (with_reducible exact keepE (by assumption) (by assumption)) | (with_reducible exact keepA _ (by assumption)))
        (first | (go_at_call 68; refine (topx_ o HO.out.o _ (ofE (by assumption)).lib).mono ?_; rintro e w4 ⟨rfl, b⟩) | (go_at_call 24; refine (show_ z HO.out.c.1 HO.out.c.2 _ (ofE (by assumption)).lib).mono ?_; rintro e w4 ⟨rfl, b⟩) | (go_at_call 66; refine (line6 _ (Lib.join [Lib.itoa t, kindT k] [32]) (opX o) (Lib.itoa z) (Lib.decDigits m) (Lib.itoa n) (listTxt d) HJ2.out).mono ?_; rintro e w4 ⟨rfl, b⟩))
      have H5 := ofE (by assumption : (w4.cell? ⟨g, 0, none⟩ = some (.int .i64 k) ∧ w4.cell? ⟨g, 1, none⟩ = some (.int .i64 t) ∧ w4.cell? ⟨g, 2, none⟩ = some (.int .i64 o) ∧ w4.cell? ⟨g, 3, none⟩ = some (.int .i64 n) ∧ w4.cell? ⟨g, 4, none⟩ = some (.int .u64 (m : Int)) ∧ w4.cell? ⟨g, 5, none⟩ = some (.int .i64 z) ∧ w4.cell? ⟨g, 6, none⟩ = some (.slice A d.length c) ∧ EB w w4 g A c k t o n (m : Int) z d))
      clear d0 d1 d2 d3 d4 d5 d6 H4' hHD
      go_wp2
      refine bodyPost_ret (v := .string (bs (Lib.join [Lib.join [Lib.itoa t, kindT k] [32], opX o, Lib.itoa z, Lib.decDigits m, Lib.itoa n, listTxt d] [32]))) ?_ ?_ ?_
      · simp [results, Tryd.results43, go_sem]
      · rfl
      · exact ⟨by rw [HE.out, join_head, HK2.out]; rfl, H5.B⟩
    · have q1 : (k == 1) = false := by rw [h]; rfl
      have q2 : (k == 2) = false := by rw [h]; rfl
      have q3 : (k == 3) = true := by rw [h]; rfl
      have q5 : (k == 5) = false := by rw [h]; rfl
      have q6 : (k == 6) = false := by rw [h]; rfl
      have q7 : (k == 7) = false := by rw [h]; rfl
      have HK2 := Aside.mk h
      clear h HK
      have HJ2 := Aside.mk (wlen [Lib.join [Lib.itoa t, kindT k] [32], Lib.decDigits m, Lib.itoa n] (by
        obtain ⟨l1, l2, l3, l4, l5, l6, l7, l8⟩ := HJ.out
        intro x hx
        simp only [List.mem_cons, List.not_mem_nil, or_false] at hx
        rcases hx with rfl | rfl | rfl <;> assumption) (by simp))
      clear HJ
      go_wp2_with (first | (go_at_call 66; refine (line3 _ (Lib.join [Lib.itoa t, kindT k] [32]) (Lib.decDigits m) (Lib.itoa n) HJ2.out).mono ?_; rintro e w4 ⟨rfl, b⟩; have HB9 := Aside.mk b; clear b))
      refine bodyPost_ret (v := .string (bs (Lib.join [Lib.join [Lib.itoa t, kindT k] [32], Lib.decDigits m, Lib.itoa n] [32]))) ?_ ?_ ?_
      · simp [results, Tryd.results43, go_sem]
      · rfl
      · exact ⟨by rw [HE.out, join_head, HK2.out]; rfl, (H4.out.step (below_alloc (Below.refl _ _) _)).B.trans (HB9.out.mono (H4.out.step (below_alloc (Below.refl _ _) _)).B.size)⟩
    · have q1 : (k == 1) = false := by rw [h]; rfl
      have q2 : (k == 2) = false := by rw [h]; rfl
      have q3 : (k == 3) = false := by rw [h]; rfl
      have q5 : (k == 5) = false := by rw [h]; rfl
      have q6 : (k == 6) = false := by rw [h]; rfl
      have q7 : (k == 7) = false := by rw [h]; rfl
      have HK2 := Aside.mk h
      clear h HK
      clear HJ
      go_wp2
      refine bodyPost_ret (v := .string (bs (Lib.join [Lib.itoa t, kindT k] [32]))) ?_ ?_ ?_
      · simp [results, Tryd.results43, go_sem]
      · rfl
      · exact ⟨by rw [HE.out, HK2.out]; rfl, H4.out.B⟩
    · have q1 : (k == 1) = false := by rw [h]; rfl
      have q2 : (k == 2) = false := by rw [h]; rfl
      have q3 : (k == 3) = false := by rw [h]; rfl
      have q5 : (k == 5) = true := by rw [h]; rfl
      have q6 : (k == 6) = false := by rw [h]; rfl
      have q7 : (k == 7) = false := by rw [h]; rfl
      have HK2 := Aside.mk h
      clear h HK
      have HJ2 := Aside.mk (wlen [Lib.join [Lib.itoa t, kindT k] [32], Lib.decDigits m, Lib.itoa n, listTxt d] (by
        obtain ⟨l1, l2, l3, l4, l5, l6, l7, l8⟩ := HJ.out
        intro x hx
        simp only [List.mem_cons, List.not_mem_nil, or_false] at hx
        rcases hx with rfl | rfl | rfl | rfl <;> assumption) (by simp))
      clear HJ
      go_wp2_with (first | (go_at_call 66; refine (line4 _ (Lib.join [Lib.itoa t, kindT k] [32]) (Lib.decDigits m) (Lib.itoa n) (listTxt d) HJ2.out).mono ?_; rintro e w4 ⟨rfl, b⟩; have HB9 := Aside.mk b; clear b))
      refine bodyPost_ret (v := .string (bs (Lib.join [Lib.join [Lib.itoa t, kindT k] [32], Lib.decDigits m, Lib.itoa n, listTxt d] [32]))) ?_ ?_ ?_
      · simp [results, Tryd.results43, go_sem]
      · rfl
      · exact ⟨by rw [HE.out, join_head, HK2.out]; rfl, (H4.out.step (below_alloc (Below.refl _ _) _)).B.trans (HB9.out.mono (H4.out.step (below_alloc (Below.refl _ _) _)).B.size)⟩
    · have q1 : (k == 1) = false := by rw [h]; rfl
      have q2 : (k == 2) = false := by rw [h]; rfl
      have q3 : (k == 3) = false := by rw [h]; rfl
      have q5 : (k == 5) = false := by rw [h]; rfl
      have q6 : (k == 6) = true := by rw [h]; rfl
      have q7 : (k == 7) = false := by rw [h]; rfl
      have HK2 := Aside.mk h
      clear h HK
      have HJ2 := Aside.mk (wlen [Lib.join [Lib.itoa t, kindT k] [32], Lib.decDigits m] (by
        obtain ⟨l1, l2, l3, l4, l5, l6, l7, l8⟩ := HJ.out
        intro x hx
        simp only [List.mem_cons, List.not_mem_nil, or_false] at hx
        rcases hx with rfl | rfl <;> assumption) (by simp))
      clear HJ
      go_wp2_with (first | (go_at_call 66; refine (line2 _ (Lib.join [Lib.itoa t, kindT k] [32]) (Lib.decDigits m) HJ2.out).mono ?_; rintro e w4 ⟨rfl, b⟩; have HB9 := Aside.mk b; clear b))
      refine bodyPost_ret (v := .string (bs (Lib.join [Lib.join [Lib.itoa t, kindT k] [32], Lib.decDigits m] [32]))) ?_ ?_ ?_
      · simp [results, Tryd.results43, go_sem]
      · rfl
      · exact ⟨by rw [HE.out, join_head, HK2.out]; rfl, (H4.out.step (below_alloc (Below.refl _ _) _)).B.trans (HB9.out.mono (H4.out.step (below_alloc (Below.refl _ _) _)).B.size)⟩
    · have q1 : (k == 1) = false := by rw [h]; rfl
      have q2 : (k == 2) = false := by rw [h]; rfl
      have q3 : (k == 3) = false := by rw [h]; rfl
      have q5 : (k == 5) = false := by rw [h]; rfl
      have q6 : (k == 6) = false := by rw [h]; rfl
      have q7 : (k == 7) = true := by rw [h]; rfl
      have HK2 := Aside.mk h
      clear h HK
      have HJ2 := Aside.mk (wlen [Lib.join [Lib.itoa t, kindT k] [32], Lib.decDigits m] (by
        obtain ⟨l1, l2, l3, l4, l5, l6, l7, l8⟩ := HJ.out
        intro x hx
        simp only [List.mem_cons, List.not_mem_nil, or_false] at hx
        rcases hx with rfl | rfl <;> assumption) (by simp))
      clear HJ
      go_wp2_with (first | (go_at_call 66; refine (line2 _ (Lib.join [Lib.itoa t, kindT k] [32]) (Lib.decDigits m) HJ2.out).mono ?_; rintro e w4 ⟨rfl, b⟩; have HB9 := Aside.mk b; clear b))
      refine bodyPost_ret (v := .string (bs (Lib.join [Lib.join [Lib.itoa t, kindT k] [32], Lib.decDigits m] [32]))) ?_ ?_ ?_
      · simp [results, Tryd.results43, go_sem]
      · rfl
      · exact ⟨by rw [HE.out, join_head, HK2.out]; rfl, (H4.out.step (below_alloc (Below.refl _ _) _)).B.trans (HB9.out.mono (H4.out.step (below_alloc (Below.refl _ _) _)).B.size)⟩
end Go.Proofs.YtabcdcnnamflfaaDoor.Wd
