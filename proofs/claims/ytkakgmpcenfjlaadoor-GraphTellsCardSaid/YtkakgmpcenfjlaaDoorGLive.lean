/- The document's example of layer 9, and rows that are the same: walked. -/
import Derived.Test.YtkakgmpcenfjlaaDoorGDo
import Derived.Test.YtkakgmpcenfjlaaDoorQGsx
set_option linter.unusedVariables false
set_option linter.unusedSimpArgs false
set_option maxRecDepth 100000
namespace Go.Proofs.YtkakgmpcenfjlaaDoor.Graph
open Go.RowKit Go.Proofs.YtkakgmpcenfjlaaDoorW.PrintWords Go.Proofs.YtkakgmpcenfjlaaDoorW.PrintLast
theorem same_loop (l m : List Int) (hl : l.length = m.length) (hb : l.length < 4611686018427387904) : ∀ (d k i : Nat), l.length - i = d → i ≤ l.length → d < k → QGs.sakiaref05_Same.l0 k l m (i : Int) = some (l.drop i == m.drop i) := by
  intro d
  induction d with
  | zero =>
    intro k i hd hi hk
    obtain ⟨k, rfl⟩ : ∃ n, k = n + 1 := ⟨k - 1, by omega⟩
    simp only [QGs.sakiaref05_Same.l0]
    rw [if_neg (by omega), List.drop_eq_nil_of_le (by omega), List.drop_eq_nil_of_le (by omega)]; rfl
  | succ d ih =>
    intro k i hd hi hk
    obtain ⟨k, rfl⟩ : ∃ n, k = n + 1 := ⟨k - 1, by omega⟩
    simp only [QGs.sakiaref05_Same.l0]
    rw [if_pos (by omega), if_pos (by omega), if_pos (by omega), rd_at _ _ (by omega), rd_at _ _ (by omega), List.drop_eq_getElem_cons (by omega : i < l.length), List.drop_eq_getElem_cons (by omega : i < m.length)]
    by_cases h : l[i] = m[i]
    · rw [if_pos h, w1 (by omega), ih k (i + 1) (by omega) (by omega) (by omega), List.cons_beq_cons, beq_iff_eq.2 h, Bool.true_and]
    · rw [if_neg h, List.cons_beq_cons, beq_eq_false_iff_ne.2 h, Bool.false_and]
theorem same_pure (l m : List Int) (hb : l.length ≤ 100) : QGs.sakiaref05_Same.f 200 l m = some (l == m) := by
  simp only [QGs.sakiaref05_Same.f]
  by_cases h : l.length = m.length
  · rw [if_pos (by omega)]
    have := same_loop l m h (by omega) l.length 200 0 (by omega) (by omega) (by omega)
    simpa using this
  · rw [if_neg (by omega)]
    have : (l == m) = false := by
      rw [beq_eq_false_iff_ne]
      intro e; rw [e] at h; exact h rfl
    rw [this]
/-- A row of numbers, read. -/
structure Rv (w : World) (A : Option Addr) (c : Nat) (l : List Int) : Prop where
  rd : Kd.C (Kd.int .i64) w A l.length l
  cap : l.length ≤ c
theorem Rv.below {w w' : World} {A : Option Addr} {c : Nat} {l : List Int} (h : Rv w A c l) (b : Below w.heap.size w w') : Rv w' A c l := ⟨Kd.C_below h.rd b, h.cap⟩
theorem same_ {w : World} {A B : Option Addr} {c d : Nat} {l m : List Int} (hl : Rv w A c l) (hm : Rv w B d m) (hb : l.length ≤ 100) :
    Calls Tryd.prog 20 #[.slice A l.length c, .slice B m.length d] w fun e w' => e = .returned (.bool (l == m)) ∧ Below w.heap.size w w' :=
  (QGs.sakiaref05_Same.calls 200 A c l B d m _ w hl.rd hl.cap hm.rd hm.cap (same_pure l m hb)).mono fun e w' ⟨he, hd⟩ => ⟨he, Drawn0.below hd⟩
theorem rdLs (up : List (List Int)) (i : Nat) (h : i < up.length) : QGs.rd_L1 up (i : Int) = up[i] := by simp [QGs.rd_L1, h]
theorem long9_loop (l : List (List Int)) : ∀ (d k i : Nat), 20 - i = d → i ≤ 20 → (∀ j (h : j < l.length), j < i → l[j].length ≤ 20) → 2 * d + 1 < k → ∃ b, QGs.sakialaw09_Long.l0 k l (i : Int) = some b ∧ (b = false → QGc.Sm l) := by
  intro d
  induction d with
  | zero =>
    intro k i hd hi hj hk
    obtain ⟨k, rfl⟩ : ∃ n, k = n + 2 := ⟨k - 2, by omega⟩
    have e : (if (i : Int) < (l.length : Int) then QGs.sakialaw09_Long.j1 (k + 1) l (i : Int) (decide ((i : Int) < 20)) else QGs.sakialaw09_Long.j1 (k + 1) l (i : Int) false) = QGs.sakialaw09_Long.j1 (k + 1) l (i : Int) false := by
      split
      · rw [decide_eq_false (by omega)]
      · rfl
    refine ⟨decide ((l.length : Int) > 20), ?_, fun hb => ?_⟩
    · simp only [QGs.sakialaw09_Long.l0]
      rw [e]
      simp only [QGs.sakialaw09_Long.j1]
      rw [if_neg (by simp)]
    · have hl : l.length ≤ 20 := by have := of_decide_eq_false hb; omega
      exact ⟨hl, fun x hx => by
        obtain ⟨j, hj2, rfl⟩ := List.mem_iff_getElem.1 hx
        exact hj j hj2 (by omega)⟩
  | succ d ih =>
    intro k i hd hi hj hk
    obtain ⟨k, rfl⟩ : ∃ n, k = n + 2 := ⟨k - 2, by omega⟩
    simp only [QGs.sakialaw09_Long.l0]
    by_cases hlt : i < l.length
    · rw [if_pos (by omega), decide_eq_true (by omega : (i : Int) < 20)]
      simp only [QGs.sakialaw09_Long.j1]
      rw [if_pos trivial, if_pos (by omega), if_pos (by omega), rdLs l i hlt]
      by_cases hc : (l[i].length : Int) > 20
      · exact ⟨true, by rw [if_pos hc], fun h => by simp at h⟩
      · rw [if_neg hc, w1 (by omega)]
        exact ih k (i + 1) (by omega) (by omega) (fun j h hji => by
          by_cases e : j = i
          · subst e; omega
          · exact hj j h (by omega)) (by omega)
    · rw [if_neg (by omega)]
      simp only [QGs.sakialaw09_Long.j1]
      rw [if_neg (by simp)]
      refine ⟨_, rfl, fun _ => ⟨by omega, fun x hx => ?_⟩⟩
      obtain ⟨j, hj2, rfl⟩ := List.mem_iff_getElem.1 hx
      exact hj j hj2 (by omega)
theorem long9 {w : World} {A : Option Addr} {C : Nat} {up : List (List Int)} (hr : Kd.C (Kd.slice 3 (Kd.int .i64)) w A up.length up) (hC : up.length ≤ C) :
    ∃ b : Bool, (b = false → QGc.Sm up) ∧ Calls Tryd.prog 7 #[.slice A up.length C] w fun e w' => e = .returned (.bool b) ∧ Below w.heap.size w w' := by
  obtain ⟨b, h1, h2⟩ := long9_loop up 20 100 0 (by omega) (by omega) (fun j _ hj => by omega) (by omega)
  exact ⟨b, h2, (QGs.sakialaw09_Long.calls 100 A C up b w hr hC h1).mono fun e w' ⟨he, hd⟩ => ⟨he, Drawn0.below hd⟩⟩
/-! ### the example -/
def upL : List (List Int) := [[], [0], [0], [1, 2]]
theorem lit_int {w : World} {b : Nat} (xs : List Int) (h : w.heap[b]? = some (.cells (xs.map (Value.int .i64)).toArray 3 (0, 0))) (hl : xs.length ≤ 100) : Kd.C (Kd.int .i64) w (some ⟨b, 0, none⟩) xs.length xs :=
  ⟨rfl, by omega, fun _ => ⟨_, rfl, fun j p hp => ⟨[.int .i64 p], rfl, rfl, fun i u hu => by
    obtain ⟨rfl, rfl⟩ : i = 0 ∧ .int .i64 p = u := by cases i with
      | zero => simpa using hu
      | succ i => simp at hu
    have h2 := blk_cell h j
    have h3 : (xs.map (Value.int .i64)).toArray[j]? = some (.int .i64 p) := by simp [hp]
    rw [h3] at h2
    rw [add_plain]
    simpa [Kd.int, Kd.scalar] using h2⟩⟩⟩
theorem below_alloc_ (w : World) (o : Obj) : Below w.heap.size w (w.alloc o) := below_alloc (Below.refl _ _) o
theorem four (w : World) (o1 o2 o3 o4 : Obj) : ((((w.alloc o1).alloc o2).alloc o3).alloc o4).heap[w.heap.size]? = some o1 ∧ ((((w.alloc o1).alloc o2).alloc o3).alloc o4).heap[w.heap.size + 1]? = some o2 ∧ ((((w.alloc o1).alloc o2).alloc o3).alloc o4).heap[w.heap.size + 1 + 1]? = some o3 ∧ ((((w.alloc o1).alloc o2).alloc o3).alloc o4).heap[w.heap.size + 1 + 1 + 1]? = some o4 := by
  obtain ⟨h1, h2, h3⟩ := three w o1 o2 o3
  refine ⟨blk_alloc h1 _, blk_alloc h2 _, blk_alloc h3 _, ?_⟩
  have := heap_alloc_new (((w.alloc o1).alloc o2).alloc o3) o4
  simpa using this
theorem fine_L : checkG upL = 0 := by decide
theorem roots_L : rootsI upL = [0] := by decide
theorem ends_L : endsI upL = [3] := by decide
theorem depth_L : depth upL 3 = 2 := by decide
theorem lit_up {w : World} {b : Nat} (h0 : w.heap[b]? = some (.cells #[.int .i64 0] 3 (0, 0))) (h1 : w.heap[b + 1]? = some (.cells #[.int .i64 0] 3 (0, 0))) (h2 : w.heap[b + 1 + 1]? = some (.cells #[.int .i64 1, .int .i64 2] 3 (0, 0)))
    (h3 : w.heap[b + 1 + 1 + 1]? = some (.cells #[.slice none 0 0, .slice (some ⟨b, 0, none⟩) 1 1, .slice (some ⟨b + 1, 0, none⟩) 1 1, .slice (some ⟨b + 1 + 1, 0, none⟩) 2 2] 27 (0, 0))) :
    Gv w (some ⟨b + 1 + 1 + 1, 0, none⟩) 4 upL := by
  have c0 := lit_int [0] h0 (by decide)
  have c1 := lit_int [0] h1 (by decide)
  have c2 := lit_int [1, 2] h2 (by decide)
  refine ⟨⟨rfl, by decide, fun _ => ⟨_, rfl, fun j p hp => ?_⟩⟩, by decide, by decide⟩
  have key : ∀ (u : Value) (xs : List Int), p = xs → w.cell? ⟨b + 1 + 1 + 1, j, none⟩ = some u → (∃ A c, u = .slice A xs.length c ∧ xs.length ≤ c ∧ Kd.C (Kd.int .i64) w A xs.length xs) → ∃ c, c.length = (Kd.slice 3 (Kd.int .i64)).sz ∧ (Kd.slice 3 (Kd.int .i64)).K w p c ∧ ∀ i v, c[i]? = some v → w.cell? ((⟨b + 1 + 1 + 1, 0, none⟩ : Addr).add (j * (Kd.slice 3 (Kd.int .i64)).sz + i)) = some v := by
    rintro u xs rfl hc ⟨A, c, rfl, hl, hC⟩
    refine ⟨[.slice A p.length c], rfl, ⟨A, c, rfl, hl, hC⟩, fun i v hv => ?_⟩
    cases i with
    | zero =>
      simp at hv
      subst hv
      rw [add_plain]
      simpa [Kd.slice] using hc
    | succ i => simp at hv
  have hcell := fun j => blk_cell h3 j
  match j, hp with
  | 0, hp => exact key _ [] (by simpa [upL] using hp.symm) (hcell 0) ⟨none, 0, rfl, Nat.le_refl _, Kd.C_nil _ _⟩
  | 1, hp => exact key _ [0] (by simpa [upL] using hp.symm) (hcell 1) ⟨_, 1, rfl, by decide, c0⟩
  | 2, hp => exact key _ [0] (by simpa [upL] using hp.symm) (hcell 2) ⟨_, 1, rfl, by decide, c1⟩
  | 3, hp => exact key _ [1, 2] (by simpa [upL] using hp.symm) (hcell 3) ⟨_, 2, rfl, by decide, c2⟩
  | j + 4, hp => simp [upL] at hp
set_option maxHeartbeats 4000000 in
theorem live9 (w : World) (hT : Tabled w) : Calls Tryd.prog 9 #[] w fun e w' => e = .returned (.bool true) ∧ Below w.heap.size w w' := by
  go_enter Tryd.func9, Tryd.ntmps9
  go_wp2_with fail
  obtain ⟨f1, f2, f3, f4⟩ := four w (.cells #[.int .i64 0] 3) (.cells #[.int .i64 0] 3) (.cells #[.int .i64 1, .int .i64 2] 3) (.cells #[.slice none 0 0, .slice (some ⟨w.heap.size, 0, none⟩) 1 1, .slice (some ⟨w.heap.size + 1, 0, none⟩) 1 1, .slice (some ⟨w.heap.size + 1 + 1, 0, none⟩) 2 2] 27)
  have HG := Aside.mk (lit_up f1 f2 f3 f4)
  have HB := Aside.mk (below_alloc (below_three w (.cells #[.int .i64 0] 3) (.cells #[.int .i64 0] 3) (.cells #[.int .i64 1, .int .i64 2] 3)) (.cells #[.slice none 0 0, .slice (some ⟨w.heap.size, 0, none⟩) 1 1, .slice (some ⟨w.heap.size + 1, 0, none⟩) 1 1, .slice (some ⟨w.heap.size + 1 + 1, 0, none⟩) 2 2] 27))
  have HT := Aside.mk hT
  clear f1 f2 f3 f4 hT
  obtain ⟨b0, hb0⟩ : ∃ b0, w.heap.size = b0 := ⟨_, rfl⟩
  rw [hb0] at HG HB ⊢
  generalize ((((w.alloc (.cells #[.int .i64 0] 3)).alloc (.cells #[.int .i64 0] 3)).alloc (.cells #[.int .i64 1, .int .i64 2] 3)).alloc (.cells #[.slice none 0 0, .slice (some ⟨b0, 0, none⟩) 1 1, .slice (some ⟨b0 + 1, 0, none⟩) 1 1, .slice (some ⟨b0 + 1 + 1, 0, none⟩) 2 2] 27)) = W0 at HG HB ⊢
  rw [← hb0] at HB
  generalize b0 + 1 + 1 + 1 = b3 at HG ⊢
  clear hb0
  refine (check8 HG.out).mono ?_
  rw [fine_L]
  rintro e W1 ⟨rfl, hb1⟩
  have HB1 := Aside.mk (HB.out.trans (hb1.mono HB.out.size))
  have HG1 := Aside.mk (HG.out.below hb1)
  clear hb1 HG HB
  go_wp2_with fail
  refine (roots_ok HG1.out fine_L).mono ?_
  rw [roots_L]
  rintro e W2 ⟨A2, c2, rfl, h21, h22, hb2⟩
  have HB2 := Aside.mk (HB1.out.trans (hb2.mono HB1.out.size))
  have HG2 := Aside.mk (HG1.out.below hb2)
  have HR2 := Aside.mk (Rv.mk h22 h21)
  clear hb2 HG1 HB1 h21 h22
  go_wp2_with fail
  have HL := Aside.mk (lit_int (w := W2.alloc (.cells #[.int .i64 0] 3)) (b := W2.heap.size) [0] (by simpa using heap_alloc_new W2 (.cells #[.int .i64 0] 3)) (by decide))
  have HR3 := Aside.mk (HR2.out.below (below_alloc_ W2 (.cells #[.int .i64 0] 3)))
  have HB3 := Aside.mk (HB2.out.trans ((below_alloc_ W2 (.cells #[.int .i64 0] 3)).mono HB2.out.size))
  have HG3 := Aside.mk (HG2.out.below (below_alloc_ W2 (.cells #[.int .i64 0] 3)))
  refine (same_ HR3.out ⟨HL.out, by decide⟩ (by decide)).mono ?_
  rintro e W4 ⟨rfl, hb4⟩
  have HB4 := Aside.mk (HB3.out.trans (hb4.mono HB3.out.size))
  have HG4 := Aside.mk (HG3.out.below hb4)
  clear hb4 HB3 HG3 HR3 HL HR2 HB2 HG2
  go_wp2_with fail
  refine (ends_ok HG4.out fine_L (HT.out.below HB4.out)).mono ?_
  rw [ends_L]
  rintro e W5 ⟨A5, c5, rfl, h51, h52, hb5⟩
  have HB5 := Aside.mk (HB4.out.trans (hb5.mono HB4.out.size))
  have HG5 := Aside.mk (HG4.out.below hb5)
  have HR5 := Aside.mk (Rv.mk h52 h51)
  clear hb5 HG4 HB4 h51 h52
  go_wp2_with fail
  have HL := Aside.mk (lit_int (w := W5.alloc (.cells #[.int .i64 3] 3)) (b := W5.heap.size) [3] (by simpa using heap_alloc_new W5 (.cells #[.int .i64 3] 3)) (by decide))
  have HR6 := Aside.mk (HR5.out.below (below_alloc_ W5 (.cells #[.int .i64 3] 3)))
  have HB6 := Aside.mk (HB5.out.trans ((below_alloc_ W5 (.cells #[.int .i64 3] 3)).mono HB5.out.size))
  have HG6 := Aside.mk (HG5.out.below (below_alloc_ W5 (.cells #[.int .i64 3] 3)))
  refine (same_ HR6.out ⟨HL.out, by decide⟩ (by decide)).mono ?_
  rintro e W7 ⟨rfl, hb7⟩
  have HB7 := Aside.mk (HB6.out.trans (hb7.mono HB6.out.size))
  have HG7 := Aside.mk (HG6.out.below hb7)
  clear hb7 HB6 HG6 HR6 HL HR5 HB5 HG5
  go_wp2_with fail
  refine (depth_ok HG7.out 3 fine_L (by decide)).mono ?_
  rw [depth_L]
  rintro e W8 ⟨rfl, hb8⟩
  have HB8 := Aside.mk (HB7.out.trans (hb8.mono HB7.out.size))
  clear hb8
  go_wp2
  go_ret
  exact ⟨rfl, HB8.out⟩
end Go.Proofs.YtkakgmpcenfjlaaDoor.Graph
