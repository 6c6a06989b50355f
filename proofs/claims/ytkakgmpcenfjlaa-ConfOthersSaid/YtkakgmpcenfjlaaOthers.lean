/- conf.Others: the configurations that differ in variant and width alone. -/
import Derived.Test.YtkakgmpcenfjlaaConfSmallP
import Derived.LoopTactic
set_option linter.unusedVariables false
set_option linter.unusedSimpArgs false
set_option maxRecDepth 100000
namespace Go.Proofs.Ytkakgmpcenfjlaa.QCf
open Go.RowKit Go.Proofs.YtkakgmpcenfjlaaW.PrintWords Go.Proofs.YtkakgmpcenfjlaaW.PrintLast Go.Proofs.YtkakgmpcenfjlaaW.PrintMore Go.Proofs.Ytkakgmpcenfjlaa.Graph Go.Proofs.Ytkakgmpcenfjlaa.QGc
def wAt (v c p s : Int) (up : List (List Int)) (w : Int) : List S25 := if checkC v w c p up = 0 then [⟨v, w, c, p, s, up⟩] else []
def widthsL (v c p s : Int) (up : List (List Int)) : List S25 := wAt v c p s up 32 ++ wAt v c p s up 64
def othersN (c p s : Int) (up : List (List Int)) : Nat → List S25
  | 0 => []
  | n + 1 => othersN c p s up n ++ widthsL ((n + 1 : Nat) : Int) c p s up
theorem wAt_len (v c p s : Int) (up : List (List Int)) (w : Int) : (wAt v c p s up w).length ≤ 1 := by unfold wAt; split <;> simp
theorem widthsL_len (v c p s : Int) (up : List (List Int)) : (widthsL v c p s up).length ≤ 2 := by
  unfold widthsL
  rw [List.length_append]
  have h1 := wAt_len v c p s up 32
  have h2 := wAt_len v c p s up 64
  omega
theorem othersN_len (c p s : Int) (up : List (List Int)) : ∀ n, (othersN c p s up n).length ≤ 2 * n
  | 0 => by simp [othersN]
  | n + 1 => by
    have := othersN_len c p s up n
    have h := widthsL_len ((n + 1 : Nat) : Int) c p s up
    unfold othersN
    rw [List.length_append]
    omega
theorem copyL_loop (up : List (List Int)) (hs : Sm up) : ∀ (d k i : Nat), up.length - i = d → i ≤ up.length → d < k → QGc.graph_Copy.l0 k (up.take i) up (up.length : Int) (i : Int) = some up := by
  intro d
  have hl := hs.1
  induction d with
  | zero =>
    intro k i hd hi hk
    obtain ⟨k, rfl⟩ : ∃ n, k = n + 1 := ⟨k - 1, by omega⟩
    simp only [QGc.graph_Copy.l0]
    rw [if_neg (by omega), List.take_of_length_le (by omega)]
  | succ d ih =>
    intro k i hd hi hk
    obtain ⟨k, rfl⟩ : ∃ n, k = n + 1 := ⟨k - 1, by omega⟩
    have hlt : i < up.length := by omega
    have h20 := hs.at i
    have := ih k (i + 1) (by omega) (by omega) (by omega)
    rw [List.take_succ_eq_append_getElem hlt] at this
    have e : up[i] = up.getD i [] := by rw [List.getD_eq_getElem?_getD, List.getElem?_eq_getElem hlt]; rfl
    simp only [QGc.graph_Copy.l0]
    rw [e] at this
    rw [if_pos (by omega), if_pos (by omega), if_pos (by omega), Option.bind_some, QGc.rdL, if_pos (by rw [List.length_nil]; omega), if_pos (by rw [List.length_take]; omega), List.nil_append, w1 (by omega)]
    exact this
theorem copyL (up : List (List Int)) (hs : Sm up) (k : Nat) (hk : 30 ≤ k) : QGc.graph_Copy.f k up = some up := by
  have := hs.1
  exact copyL_loop up hs up.length k 0 (by omega) (by omega) (by omega)
/-- What widths has made: its own copy of the configuration (block g), and what is handed back (value x). -/
structure WB (W w : World) (g : Nat) (x : Value) (v ω c p s : Int) (A : Option Addr) (C : Nat) (up : List (List Int)) (xs : List S25) : Prop where
  B : Below W.heap.size W w
  ge : W.heap.size ≤ g
  bx : w.heap[g]? = some (.cells #[.int .i64 v, .int .i64 ω, .int .i64 c, .int .i64 p, .int .u64 s, .slice A up.length C] 25 (0, 0))
  V : Kd.V (Kd.slice 3 (Kd.int .i64)) 40 w W.heap.size (fun k => k ≠ g ∧ some k ≠ x.ownBlock) (.slice A up.length C) up
  R : Kd.R k25 25 w W.heap.size (fun k => k ≠ g) x xs
theorem size_set (w : World) (p : Addr) (u : Value) : (w.setCell p u).heap.size = w.heap.size := by simp [World.setCell]
theorem blk_cell6 {w : World} {g : Nat} {c0 c1 c2 c3 c4 c5 : Value} {t : TypeId} (h : w.heap[g]? = some (.cells #[c0, c1, c2, c3, c4, c5] t (0, 0))) :
    w.cell? ⟨g, 0, none⟩ = some c0 ∧ w.cell? ⟨g, 1, none⟩ = some c1 ∧ w.cell? ⟨g, 2, none⟩ = some c2 ∧ w.cell? ⟨g, 3, none⟩ = some c3 ∧ w.cell? ⟨g, 4, none⟩ = some c4 ∧ w.cell? ⟨g, 5, none⟩ = some c5 := by
  refine ⟨?_, ?_, ?_, ?_, ?_, ?_⟩ <;> simp [World.cell?, h]
section
variable {W w w' : World} {g : Nat} {x : Value} {v ω c p s : Int} {A : Option Addr} {C : Nat} {up : List (List Int)} {xs : List S25}
theorem WB.lt (h : WB W w g x v ω c p s A C up xs) : g < w.heap.size := (Array.getElem?_eq_some_iff.1 h.bx).1
theorem WB.step (h : WB W w g x v ω c p s A C up xs) (b : Below w.heap.size w w') : WB W w' g x v ω c p s A C up xs :=
  ⟨h.B.trans (b.mono h.B.size), h.ge, (b.block g h.lt).trans h.bx, Kd.V_below h.V b, Kd.R_below h.R b⟩
theorem WB.width (h : WB W w g x v ω c p s A C up xs) (ω' : Int) : WB W (w.setCell ⟨g, 1, none⟩ (.int .i64 ω')) g x v ω' c p s A C up xs :=
  ⟨h.B.setCell h.ge _, h.ge, blk_put h.bx 1 _ rfl, Kd.V_far h.V (p := ⟨g, 1, none⟩) (fun k hk => hk.1) _, Kd.R_far h.R (p := ⟨g, 1, none⟩) (fun k hk => hk) _⟩
theorem WB.variant (h : WB W w g x v ω c p s A C up xs) (v' : Int) : WB W (w.setCell ⟨g, 0, none⟩ (.int .i64 v')) g x v' ω c p s A C up xs :=
  ⟨h.B.setCell h.ge _, h.ge, blk_put h.bx 0 _ rfl, Kd.V_far h.V (p := ⟨g, 0, none⟩) (fun k hk => hk.1) _, Kd.R_far h.R (p := ⟨g, 0, none⟩) (fun k hk => hk) _⟩
theorem WB.begun (h : WB W w g x v ω c p s A C up xs) (s' : Int) : WB W (w.setCell ⟨g, 4, none⟩ (.int .u64 s')) g x v ω c p s' A C up xs :=
  ⟨h.B.setCell h.ge _, h.ge, blk_put h.bx 4 _ rfl, Kd.V_far h.V (p := ⟨g, 4, none⟩) (fun k hk => hk.1) _, Kd.R_far h.R (p := ⟨g, 4, none⟩) (fun k hk => hk) _⟩
theorem WB.reads (h : WB W w g x v ω c p s A C up xs) : Kd.C (Kd.slice 3 (Kd.int .i64)) w A up.length up ∧ up.length ≤ C := ⟨(Kd.V_reads' h.V).2.2, (Kd.V_reads' h.V).2.1⟩
/-- A new row for the field. -/
theorem WB.copied {w1 : World} {A' : Option Addr} {C' : Nat} (h : WB W w g x v ω c p s A C up xs) (b : Below w.heap.size w w1) (hS : Kd.S (Kd.slice 3 (Kd.int .i64)) 40 w1 w.heap.size (fun _ => True) (.slice A' up.length C') up) :
    WB W (w1.setCell ⟨g, 5, none⟩ (.slice A' up.length C')) g x v ω c p s A' C' up xs ∧
    Kd.R (Kd.slice 3 (Kd.int .i64)) 40 (w1.setCell ⟨g, 5, none⟩ (.slice A' up.length C')) W.heap.size (fun k => k ≠ g ∧ some k ≠ x.ownBlock) (.slice A' up.length C') up := by
  have h1 := h.step b
  have hx : ∀ k, x.ownBlock = some k → k < w.heap.size := fun k hk => Kd.N_lt (Kd.R_N h.R) k hk
  have hR : Kd.R (Kd.slice 3 (Kd.int .i64)) 40 w1 W.heap.size (fun k => k ≠ g ∧ some k ≠ x.ownBlock) (.slice A' up.length C') up :=
    Kd.R_lower (Kd.R_mono (Kd.R_bound (Kd.S_R hS)) (fun k hk => ⟨by have := hk.2.1; have := h.lt; omega, fun e => by have := hx k e.symm; have := hk.2.1; omega⟩)) h.B.size
  have hR2 := Kd.R_far hR (p := ⟨g, 5, none⟩) (fun k hk => hk.1) (.slice A' up.length C')
  exact ⟨⟨h1.B.setCell h.ge _, h.ge, blk_put h1.bx 5 _ rfl, Kd.R_V hR2, Kd.R_far h1.R (p := ⟨g, 5, none⟩) (fun k hk => hk) _⟩, hR2⟩
/-- Behind an append. -/
theorem WB.appended {w1 : World} {x1 : Value} {ys : List S25} (h : WB W w g x v ω c p s A C up xs) (hR : Kd.R k25 25 w1 W.heap.size (fun k => k ≠ g) x1 (xs ++ ys)) (hb : Below W.heap.size W w1) (hg : w.grownBy w1 x.ownBlock)
    (hat : x1.ownBlock = x.ownBlock ∨ ∃ b, x1.ownBlock = some b ∧ w.heap.size ≤ b) : WB W w1 g x1 v ω c p s A C up (xs ++ ys) :=
  ⟨hb, h.ge, blk_grown h.bx hg (Kd.N_away (Kd.R_N h.R) (fun k hk => hk)), Kd.V_afterv (ok := fun k => k ≠ g) h.V hg hat, hR⟩
theorem WB.start (W : World) (v ω c p s : Int) (A : Option Addr) (C : Nat) (up : List (List Int)) (hr : Kd.C (Kd.slice 3 (Kd.int .i64)) W A up.length up) (hC : up.length ≤ C) :
    WB W (W.alloc (.cells #[.int .i64 v, .int .i64 ω, .int .i64 c, .int .i64 p, .int .u64 s, .slice A up.length C] 25)) W.heap.size (.slice none 0 0) v ω c p s A C up [] := by
  refine ⟨box_below _ _, Nat.le_refl _, heap_alloc_new _ _, ?_, Kd.R_nil _ _ _ _ _⟩
  exact Kd.V_alloc (Kd.V_mk hC (Kd.F_mono (Kd.C_F (Kd.heap_slice _ (Kd.heap_int _)) hr) (fun k hk => ⟨by omega, by simp [Value.ownBlock]⟩))) _
end
theorem wAt_yes {v c p s : Int} {up : List (List Int)} {w : Int} (h : checkC v w c p up = 0) : wAt v c p s up w = [⟨v, w, c, p, s, up⟩] := by unfold wAt; rw [if_pos h]
theorem wAt_no {v c p s : Int} {up : List (List Int)} {w : Int} (h : ¬ checkC v w c p up = 0) : wAt v c p s up w = [] := by unfold wAt; rw [if_neg h]
/-- What is handed back behind i rounds. -/
def wsL (v c p s : Int) (up : List (List Int)) (i : Nat) : List S25 := if i = 0 then [] else if i = 1 then wAt v c p s up 32 else widthsL v c p s up
set_option maxHeartbeats 4000000 in
theorem widths_ (v w c p s : Int) (A : Option Addr) (C : Nat) (up : List (List Int)) (b : Nat) (W : World) (hs : Sm up) (hr : Kd.C (Kd.slice 3 (Kd.int .i64)) W A up.length up) (hC : up.length ≤ C)
    (l0 : W.cell? ⟨b, 0, none⟩ = some (.int .i64 32)) (l1 : W.cell? ⟨b, 1, none⟩ = some (.int .i64 64)) :
    Calls Try.prog 82 #[.agg #[.int .i64 v, .int .i64 w, .int .i64 c, .int .i64 p, .int .u64 s, .slice A up.length C], .slice (some ⟨b, 0, none⟩) 2 2] W fun e w' =>
      ∃ x, e = .returned x ∧ Kd.R k25 25 w' W.heap.size (fun _ => True) x (widthsL v c p s up) ∧ Below W.heap.size W w' := by
  have hu := Try.underlying25
  have HS := Aside0.mk hs
  have hbl := World.block_lt_of_cell? _ _ l0
  have L0 := Aside0.mk l0
  have L1 := Aside0.mk l1
  have HW := Aside0.mk (WB.start W v w c p s A C up hr hC)
  clear hs hr hC l0 l1
  go_enter Try.func82, Try.ntmps82
  go_wp2_with fail
  generalize (W.alloc (.cells #[.int .i64 v, .int .i64 w, .int .i64 c, .int .i64 p, .int .u64 s, .slice A up.length C] 25)) = W1 at *
  obtain ⟨g, hg⟩ : ∃ g, Aside0 (W.heap.size = g) := ⟨_, ⟨rfl⟩⟩
  rw [hg.out] at HW ⊢
  have hbl2 : b < g := by have := hg.out; exact this ▸ hbl
  go_loopw [5, 10] (fun x v10 wr => ∃ (i : Nat) (ω : Int) (A : Option Addr) (C : Nat), i ≤ 2 ∧ v10 = .int .i64 i ∧ WB W wr g x v ω c p s A C up (wsL v c p s up i)) (fun _ v10 _ => 2 - (intOf v10).toNat)
  case atStart => exact ⟨0, w, A, C, by omega, rfl, HW.out⟩
  case round =>
    obtain ⟨i, ω, A, C, hi, rfl, hW⟩ := hrel
    have HW := Aside0.mk hW
    clear hW
    rcases (show i = 0 ∨ i = 1 ∨ i = 2 by omega) with rfl | rfl | rfl
    · have c0 := (HW.out.B.cell (p := ⟨b, 0, none⟩) hbl).trans L0.out
      obtain ⟨d0, d1, d2, d3, d4, d5⟩ := blk_cell6 HW.out.bx
      have f1 := blk_frozen HW.out.bx 1
      have HW1 := Aside0.mk (HW.out.width 32)
      obtain ⟨e0, e1, e2, e3, e4, e5⟩ := blk_cell6 HW1.out.bx
      go_wp2_with fail
      refine (confCheck v 32 c p s A C up _ HS.out HW1.out.reads.1 HW1.out.reads.2).mono ?_
      rintro e w2 ⟨rfl, hb2⟩
      have HW2 := Aside0.mk (HW1.out.step hb2)
      clear HW1 HW c0 d0 d1 d2 d3 d4 d5 f1 e0 e1 e2 e3 e4 e5 hb2
      by_cases hc : checkC v 32 c p up = 0
      · have t1 : (checkC v 32 c p up == 0) = true := by rw [hc]; rfl
        have HC := Aside0.mk hc
        clear hc
        obtain ⟨d0, d1, d2, d3, d4, d5⟩ := blk_cell6 HW2.out.bx
        go_wp2_with fail
        refine (QGc.graph_Copy.calls 30 A C up up _ HW2.out.reads.1 HW2.out.reads.2 (copyL up HS.out 30 (Nat.le_refl _))).mono ?_
        rintro e w3 ⟨v3, rfl, hS, hb3⟩
        obtain ⟨A', C', rfl⟩ := Kd.V_slice (Kd.S_V (base' := 0) hS)
        have hcop := HW2.out.copied hb3 hS
        have HW4 := Aside0.mk hcop.1
        have HR4 := Aside0.mk hcop.2
        have hw3 := (HW2.out.step hb3).bx
        obtain ⟨e0, e1, e2, e3, e4, e5⟩ := blk_cell6 hw3
        have f5 := blk_frozen hw3 5
        have HLN := Aside0.mk (show (wsL v c p s up 0).length ≤ 1 from by simp [wsL])
        clear hcop hw3 hS hb3 HW2 d0 d1 d2 d3 d4 d5
        obtain ⟨d0, d1, d2, d3, d4, d5⟩ := blk_cell6 HW4.out.bx
        go_wp2_with (at_builtin; refine Kd.R_append k25 (w0 := W) W.heap.size rfl (.tmp 23) (.tmp 25) 74 25 (.agg #[.int .i64 0, .int .i64 0, .int .i64 0, .int .i64 0, .int .u64 0, .slice none 0 0]) 64 rfl Try.underlying74 info25 rfl (by decide) (by omega) u5 (wsL v c p s up 0) (⟨v, 32, c, p, s, up⟩ : S25) [.int .i64 v, .int .i64 32, .int .i64 c, .int .i64 p, .int .u64 s, .slice A' up.length C'] (fun k => k ≠ g) (fun k => k ≠ g ∧ some k ≠ (u5 : Value).ownBlock) rfl (by rw [size_set]; rfl) ?aP ?aK ?aF ?aO ?aB ?aS ?aL ?_; (case aP => exact k25_mkM _ _ _ (⟨v, 32, c, p, s, up⟩ : S25) HR4.out); (case aK => exact fun _ hk => hk); (case aF => exact fun k hk => by have := HW4.out.lt; omega); (case aO => exact HW4.out.R); (case aB => exact HW4.out.B); (case aS => exact HW4.out.B.size); (case aL => have := HLN.out; omega); intro x1 w5 ho hb5 hg5 hat5; have HW5 := Aside0.mk (HW4.out.appended ho hb5 hg5 hat5); clear ho hb5 hg5 hat5 d0 d1 d2 d3 d4 d5 e0 e1 e2 e3 e4 e5 f5)
        go_roundw
        case rel => exact ⟨1, 32, A', C', by omega, by go_num, by
          have := HW5.out
          rw [show wsL v c p s up 1 = wsL v c p s up 0 ++ [⟨v, 32, c, p, s, up⟩] by show wAt v c p s up 32 = [] ++ [⟨v, 32, c, p, s, up⟩]; rw [wAt_yes HC.out]; rfl]
          exact this⟩
        case measure => simp [intOf]
      · have t1 : (checkC v 32 c p up == 0) = false := by simpa using hc
        have HC := Aside0.mk hc
        clear hc
        go_wp2_with fail
        go_roundw
        case rel => exact ⟨1, 32, A, C, by omega, by go_num, by
          have := HW2.out
          rw [show wsL v c p s up 1 = wsL v c p s up 0 by show wAt v c p s up 32 = []; rw [wAt_no HC.out]]
          exact this⟩
        case measure => simp [intOf]
    · have c0 := (HW.out.B.cell (p := ⟨b, 1, none⟩) hbl).trans L1.out
      obtain ⟨d0, d1, d2, d3, d4, d5⟩ := blk_cell6 HW.out.bx
      have f1 := blk_frozen HW.out.bx 1
      have HW1 := Aside0.mk (HW.out.width 64)
      obtain ⟨e0, e1, e2, e3, e4, e5⟩ := blk_cell6 HW1.out.bx
      go_wp2_with fail
      refine (confCheck v 64 c p s A C up _ HS.out HW1.out.reads.1 HW1.out.reads.2).mono ?_
      rintro e w2 ⟨rfl, hb2⟩
      have HW2 := Aside0.mk (HW1.out.step hb2)
      clear HW1 HW c0 d0 d1 d2 d3 d4 d5 f1 e0 e1 e2 e3 e4 e5 hb2
      by_cases hc : checkC v 64 c p up = 0
      · have t1 : (checkC v 64 c p up == 0) = true := by rw [hc]; rfl
        have HC := Aside0.mk hc
        clear hc
        obtain ⟨d0, d1, d2, d3, d4, d5⟩ := blk_cell6 HW2.out.bx
        go_wp2_with fail
        refine (QGc.graph_Copy.calls 30 A C up up _ HW2.out.reads.1 HW2.out.reads.2 (copyL up HS.out 30 (Nat.le_refl _))).mono ?_
        rintro e w3 ⟨v3, rfl, hS, hb3⟩
        obtain ⟨A', C', rfl⟩ := Kd.V_slice (Kd.S_V (base' := 0) hS)
        have hcop := HW2.out.copied hb3 hS
        have HW4 := Aside0.mk hcop.1
        have HR4 := Aside0.mk hcop.2
        have hw3 := (HW2.out.step hb3).bx
        obtain ⟨e0, e1, e2, e3, e4, e5⟩ := blk_cell6 hw3
        have f5 := blk_frozen hw3 5
        have HLN := Aside0.mk (show (wsL v c p s up 1).length ≤ 1 from by show (wAt v c p s up 32).length ≤ 1; exact wAt_len v c p s up 32)
        clear hcop hw3 hS hb3 HW2 d0 d1 d2 d3 d4 d5
        obtain ⟨d0, d1, d2, d3, d4, d5⟩ := blk_cell6 HW4.out.bx
        go_wp2_with (at_builtin; refine Kd.R_append k25 (w0 := W) W.heap.size rfl (.tmp 23) (.tmp 25) 74 25 (.agg #[.int .i64 0, .int .i64 0, .int .i64 0, .int .i64 0, .int .u64 0, .slice none 0 0]) 64 rfl Try.underlying74 info25 rfl (by decide) (by omega) u5 (wsL v c p s up 1) (⟨v, 64, c, p, s, up⟩ : S25) [.int .i64 v, .int .i64 64, .int .i64 c, .int .i64 p, .int .u64 s, .slice A' up.length C'] (fun k => k ≠ g) (fun k => k ≠ g ∧ some k ≠ (u5 : Value).ownBlock) rfl (by rw [size_set]; rfl) ?aP ?aK ?aF ?aO ?aB ?aS ?aL ?_; (case aP => exact k25_mkM _ _ _ (⟨v, 64, c, p, s, up⟩ : S25) HR4.out); (case aK => exact fun _ hk => hk); (case aF => exact fun k hk => by have := HW4.out.lt; omega); (case aO => exact HW4.out.R); (case aB => exact HW4.out.B); (case aS => exact HW4.out.B.size); (case aL => have := HLN.out; omega); intro x1 w5 ho hb5 hg5 hat5; have HW5 := Aside0.mk (HW4.out.appended ho hb5 hg5 hat5); clear ho hb5 hg5 hat5 d0 d1 d2 d3 d4 d5 e0 e1 e2 e3 e4 e5 f5)
        go_roundw
        case rel => exact ⟨2, 64, A', C', by omega, by go_num, by
          have := HW5.out
          rw [show wsL v c p s up 2 = wsL v c p s up 1 ++ [⟨v, 64, c, p, s, up⟩] by show wAt v c p s up 32 ++ wAt v c p s up 64 = wAt v c p s up 32 ++ [⟨v, 64, c, p, s, up⟩]; rw [wAt_yes HC.out]]
          exact this⟩
        case measure => simp [intOf]
      · have t1 : (checkC v 64 c p up == 0) = false := by simpa using hc
        have HC := Aside0.mk hc
        clear hc
        go_wp2_with fail
        go_roundw
        case rel => exact ⟨2, 64, A, C, by omega, by go_num, by
          have := HW2.out
          rw [show wsL v c p s up 2 = wsL v c p s up 1 by show wAt v c p s up 32 ++ wAt v c p s up 64 = wAt v c p s up 32; rw [wAt_no HC.out, List.append_nil]]
          exact this⟩
        case measure => simp [intOf]
    · go_wp2_with fail
      go_ret
      exact ⟨_, rfl, Kd.R_mono HW.out.R (fun _ _ => trivial), by rw [hg.out]; have := HW.out.B; rw [hg.out] at this; exact this⟩
set_option maxHeartbeats 4000000 in
theorem othersBad (v w c p s : Int) (A : Option Addr) (C : Nat) (up : List (List Int)) (W : World) (hs : Sm up) (hr : Kd.C (Kd.slice 3 (Kd.int .i64)) W A up.length up) (hC : up.length ≤ C) (hc : ¬ checkC v w c p up = 0) :
    Calls Try.prog 47 #[.agg #[.int .i64 v, .int .i64 w, .int .i64 c, .int .i64 p, .int .u64 s, .slice A up.length C]] W fun e w' =>
      ∃ x, e = .returned x ∧ Kd.R k25 25 w' W.heap.size (fun _ => True) x [] ∧ Below W.heap.size W w' := by
  have hu := Try.underlying25
  have t1 : (checkC v w c p up != 0) = true := by simpa using hc
  have T1 := Aside0.mk t1
  have HCK := Aside0.mk (confCheck v w c p s A C up (W.alloc (.cells #[.int .i64 v, .int .i64 w, .int .i64 c, .int .i64 p, .int .u64 s, .slice A up.length C] 25)) hs (Kd.C_alloc hr _) hC)
  clear hs hr hC hc t1
  go_enter Try.func47, Try.ntmps47
  go_wp2_with fail
  refine HCK.out.mono ?_
  rintro e w2 ⟨rfl, hb⟩
  have HB := Aside0.mk ((box_below W (.cells #[.int .i64 v, .int .i64 w, .int .i64 c, .int .i64 p, .int .u64 s, .slice A up.length C] 25)).trans (hb.mono (box_below W (.cells #[.int .i64 v, .int .i64 w, .int .i64 c, .int .i64 p, .int .u64 s, .slice A up.length C] 25)).size))
  clear hb
  have t1 := T1.out
  go_wp2_with fail
  go_ret
  exact ⟨_, rfl, Kd.R_nil _ _ _ _ _, HB.out⟩
set_option maxHeartbeats 4000000 in
theorem othersGood (v w c p s : Int) (A : Option Addr) (C : Nat) (up : List (List Int)) (W : World) (hs : Sm up) (hr : Kd.C (Kd.slice 3 (Kd.int .i64)) W A up.length up) (hC : up.length ≤ C) (hs0 : 0 ≤ s) (hc : checkC v w c p up = 0) :
    Calls Try.prog 47 #[.agg #[.int .i64 v, .int .i64 w, .int .i64 c, .int .i64 p, .int .u64 s, .slice A up.length C]] W fun e w' =>
      ∃ x, e = .returned x ∧ Kd.R k25 25 w' W.heap.size (fun _ => True) x (othersN c p (cutN 32 s) up 5) ∧ Below W.heap.size W w' := by
  have hu := Try.underlying25
  have t1 : (checkC v w c p up != 0) = false := by rw [hc]; rfl
  have T1 := Aside0.mk t1
  have HS := Aside0.mk hs
  have HCUT := Aside0.mk (cut_ok (w := 32) hs0)
  obtain ⟨s', hs'⟩ : ∃ s', cutN 32 s = s' := ⟨_, rfl⟩
  rw [hs'] at HCUT ⊢
  clear hs'
  have HCK := Aside0.mk (confCheck v w c p s A C up (W.alloc (.cells #[.int .i64 v, .int .i64 w, .int .i64 c, .int .i64 p, .int .u64 s, .slice A up.length C] 25)) hs (Kd.C_alloc hr _) hC)
  have HW := Aside0.mk (WB.start W v w c p s A C up hr hC)
  clear hs hr hC hc t1 hs0
  go_enter Try.func47, Try.ntmps47
  go_wp2_with fail
  refine HCK.out.mono ?_
  rintro e w2 ⟨rfl, hb⟩
  have HW2 := Aside0.mk (HW.out.step hb)
  clear hb HW HCK
  obtain ⟨g, hg⟩ : ∃ g, Aside0 (W.heap.size = g) := ⟨_, ⟨rfl⟩⟩
  rw [hg.out] at HW2 ⊢
  have t1 := T1.out
  obtain ⟨d0, d1, d2, d3, d4, d5⟩ := blk_cell6 HW2.out.bx
  go_wp2_with fail
  refine (wide_Cut.calls 32 s _ _ HCUT.out).mono ?_
  rintro e w3 ⟨rfl, hd⟩
  have HW3 := Aside0.mk (HW2.out.step (show Below w2.heap.size w2 w3 by obtain ⟨n, rfl⟩ := hd; exact pw_below_drewN (Below.refl _ _) n))
  clear hd d0 d1 d2 d3 d4 d5 HW2 t1
  obtain ⟨d0, d1, d2, d3, d4, d5⟩ := blk_cell6 HW3.out.bx
  have f4 := blk_frozen HW3.out.bx 4
  have HW4 := Aside0.mk (HW3.out.begun s')
  go_wp2_with fail
  clear d0 d1 d2 d3 d4 d5 f4 HW3
  clear HCUT
  go_loopw [3, 4] (fun x v4 wr => ∃ (n : Nat) (nv : Int), n ≤ 5 ∧ v4 = .int .i64 ((n : Int) + 1) ∧ WB W wr g x nv w c p s' A C up (othersN c p s' up n)) (fun _ v4 _ => 6 - (intOf v4).toNat)
  case atStart => exact ⟨0, v, by omega, rfl, HW4.out⟩
  case round =>
    obtain ⟨n, nv, hn, rfl, hW⟩ := hrel
    have HW := Aside0.mk hW
    clear hW
    by_cases hlt : n < 5
    · have t2 : decide ((n : Int) + 1 ≤ 5) = true := decide_eq_true (by omega)
      have hn1 : (n : Int) + 1 ≤ 5 := by omega
      obtain ⟨d0, d1, d2, d3, d4, d5⟩ := blk_cell6 HW.out.bx
      have f0 := blk_frozen HW.out.bx 0
      have HW1 := Aside0.mk (HW.out.variant ((n : Int) + 1))
      obtain ⟨e0, e1, e2, e3, e4, e5⟩ := blk_cell6 HW1.out.bx
      go_wp2_with fail
      have HW2 := Aside0.mk (HW1.out.step (box_below _ (.cells #[.int .i64 32, .int .i64 64] 3)))
      have l0 : ((wr.setCell ⟨g, 0, none⟩ (.int .i64 ((n : Int) + 1))).alloc (.cells #[.int .i64 32, .int .i64 64] 3)).cell? ⟨wr.heap.size, 0, none⟩ = some (.int .i64 32) := by
        have := fresh6 (wr.setCell ⟨g, 0, none⟩ (.int .i64 ((n : Int) + 1))) #[.int .i64 32, .int .i64 64] 3 0 _ rfl
        rw [size_set] at this
        exact this
      have l1 : ((wr.setCell ⟨g, 0, none⟩ (.int .i64 ((n : Int) + 1))).alloc (.cells #[.int .i64 32, .int .i64 64] 3)).cell? ⟨wr.heap.size, 1, none⟩ = some (.int .i64 64) := by
        have := fresh6 (wr.setCell ⟨g, 0, none⟩ (.int .i64 ((n : Int) + 1))) #[.int .i64 32, .int .i64 64] 3 1 _ rfl
        rw [size_set] at this
        exact this
      clear d0 d1 d2 d3 d4 d5 f0 e0 e1 e2 e3 e4 e5 HW HW1
      generalize ((wr.setCell ⟨g, 0, none⟩ (.int .i64 ((n : Int) + 1))).alloc (.cells #[.int .i64 32, .int .i64 64] 3)) = w5 at *
      refine (widths_ ((n : Int) + 1) w c p s' A C up wr.heap.size w5 HS.out HW2.out.reads.1 HW2.out.reads.2 l0 l1).mono ?_
      rintro e w6 ⟨x1, rfl, hR1, hb6⟩
      have hB1 := Kd.R_bound hR1
      obtain ⟨A1, C1, rfl, hl1, hrow⟩ := OwnRow.reads hB1.2
      have HROW := Aside0.mk (hrow.imp_ (R' := fun p cs => k25.M w6 W.heap.size (fun k => w5.heap.size ≤ k) p cs) (Below.refl _ _) (fun _ _ hm => k25.M_lower HW2.out.B.size (k25.M_mono (fun k hk => hk.1.2.1) hm)))
      have HW6 := Aside0.mk (HW2.out.step hb6)
      have HX := Aside0.mk (show ∀ k, (u3 : Value).ownBlock = some k → k < w5.heap.size from fun k hk => Kd.N_lt (Kd.R_N HW2.out.R) k hk)
      have HGL := Aside0.mk HW2.out.lt
      have HB5 := Aside0.mk HW2.out.B.size
      have HLN := Aside0.mk (othersN_len c p s' up n)
      have HLW := Aside0.mk (widthsL_len ((n : Int) + 1) c p s' up)
      clear hR1 hb6 hB1 hrow HW2 l0 l1 hl1
      go_wp2_with (at_builtin; refine Kd.R_append_rows k25 (w0 := W) W.heap.size rfl (.tmp 18) (.tmp 21) 74 25 (.agg #[.int .i64 0, .int .i64 0, .int .i64 0, .int .i64 0, .int .u64 0, .slice none 0 0]) 64 rfl Try.underlying74 info25 rfl (by decide) (by omega) u3 (othersN c p s' up n) (widthsL ((n : Int) + 1) c p s' up) A1 (widthsL ((n : Int) + 1) c p s' up).length C1 (fun k => k ≠ g) (fun k => w5.heap.size ≤ k) rfl rfl ?aO HROW.out ?aM ?aK ?aF ?aB ?aS ?aL ?_; (case aO => exact HW6.out.R); (case aM => exact fun _ _ hm => hm); (case aK => exact fun k hk => ⟨by have := HGL.out; omega, fun e => by have := HX.out k e.symm; omega⟩); (case aF => exact fun k hk => by have := HW6.out.lt; omega); (case aB => exact HW6.out.B); (case aS => exact HW6.out.B.size); (case aL => have := HLN.out; have := HLW.out; omega); intro x2 w7 ho hb7 hg7 hat7; have HW7 := Aside0.mk (HW6.out.appended ho hb7 hg7 hat7); clear ho hb7 hg7 hat7)
      go_roundw
      case rel => exact ⟨n + 1, (n : Int) + 1, by omega, by go_num, HW7.out⟩
      case measure => simp [intOf]; omega
    · have t2 : decide ((n : Int) + 1 ≤ 5) = false := decide_eq_false (by omega)
      have hn5 : n = 5 := by omega
      subst hn5
      go_wp2_with fail
      go_ret
      exact ⟨u3, rfl, Kd.R_mono HW.out.R (fun _ _ => trivial), by rw [hg.out]; have := HW.out.B; rw [hg.out] at this; exact this⟩
def conf_Others.f (v w c p s : Int) (up : List (List Int)) : Option (List S25) := if Sm up ∧ 0 ≤ s then some (if checkC v w c p up = 0 then othersN c p (cutN 32 s) up 5 else []) else none
theorem conf_Others.calls (v w c p s : Int) (A : Option Addr) (C : Nat) (up : List (List Int)) (r : List S25) (W : World) (hr : Kd.C (Kd.slice 3 (Kd.int .i64)) W A up.length up) (hC : up.length ≤ C) (h : conf_Others.f v w c p s up = some r) :
    Calls Try.prog 47 #[.agg #[.int .i64 v, .int .i64 w, .int .i64 c, .int .i64 p, .int .u64 s, .slice A up.length C]] W fun e w' =>
      ∃ x, e = .returned x ∧ Kd.R k25 25 w' W.heap.size (fun _ => True) x r ∧ Below W.heap.size W w' := by
  unfold conf_Others.f at h
  split at h
  · rename_i hx
    obtain rfl := Option.some.inj h
    by_cases hc : checkC v w c p up = 0
    · rw [if_pos hc]; exact othersGood v w c p s A C up W hx.1 hr hC hx.2 hc
    · rw [if_neg hc]; exact othersBad v w c p s A C up W hx.1 hr hC hc
  · exact absurd h (by simp)
end Go.Proofs.Ytkakgmpcenfjlaa.QCf
