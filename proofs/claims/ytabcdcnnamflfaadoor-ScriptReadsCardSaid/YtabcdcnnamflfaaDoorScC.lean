/- The configuration of a line: walked. Asked: the library's variables lie as laid. -/
import Derived.Test.YtabcdcnnamflfaaDoorScB
set_option linter.unusedVariables false
set_option linter.unusedSimpArgs false
set_option maxRecDepth 100000
namespace Go.Proofs.YtabcdcnnamflfaaDoor.Wd
open Go.RowKit Go.Proofs.YtabcdcnnamflfaaDoorW.PrintWords Go.Proofs.YtabcdcnnamflfaaDoorW.PrintLast Go.Proofs.YtabcdcnnamflfaaDoorW.PrintMore
def resC (s : List UInt8) : Bool := lineB s && confG (wordsOf s)
def valC (s : List UInt8) : Cf := if resC s = true then confV (wordsOf s) else ⟨0, 0, 0, 0, 0, []⟩
/-- Rows of numbers in a row that one made oneself. -/
def OutU (w : World) (base : Nat) (v : Value) (xs : List (List Int)) : Prop := ∃ rows : List (List Value), rows.length = xs.length ∧ Kd.R (Kd.raw 1) 37 w base (fun _ => True) v rows ∧ ∀ (j : Nat) (h : j < xs.length), ∃ A c, rows[j]? = some [.slice A xs[j].length c] ∧ xs[j].length ≤ c ∧ NumS w A xs[j]
theorem raw_away {w : World} {base sz : Nat} {e : TypeId} {v : Value} {rows : List (List Value)} (h : Kd.R (Kd.raw sz) e w base (fun _ => True) v rows) {t : TypeId} (ht : t ≠ e) : ∀ g cl, w.heap[g]? = some (.cells cl t (0, 0)) → some g ≠ v.ownBlock := by
  intro g cl hg e2
  obtain ⟨inner, ho, _⟩ := h.2
  rcases ho.2 with ⟨hv, _⟩ | ⟨g2, cap, cur, hv, _, hb, _⟩
  · rw [hv] at e2; simp [Value.ownBlock] at e2
  · rw [hv] at e2
    simp only [Value.ownBlock] at e2
    injection e2 with e2
    subst e2
    rw [hg] at hb
    injection hb with hb
    injection hb with _ hb _
    exact absurd hb ht
theorem raw_set {w : World} {base sz : Nat} {e : TypeId} {v : Value} {rows : List (List Value)} (h : Kd.R (Kd.raw sz) e w base (fun _ => True) v rows) {t : TypeId} (ht : t ≠ e) {g : Nat} {cl : Array Value} (hg : w.heap[g]? = some (.cells cl t (0, 0))) (i : Nat) (u : Value) : Kd.R (Kd.raw sz) e (w.setCell ⟨g, i, none⟩ u) base (fun _ => True) v rows :=
  Kd.R_mono (Kd.R_far (p := ⟨g, i, none⟩) (Kd.R_far1 h rfl (raw_away h ht g cl hg)) (fun _ hk => hk.2) u) (fun _ _ => trivial)
theorem OutU.below {w w' : World} {base : Nat} {v : Value} {xs : List (List Int)} (h : OutU w base v xs) (b : Below w.heap.size w w') : OutU w' base v xs := by
  obtain ⟨rows, h1, h2, h3⟩ := h
  refine ⟨rows, h1, Kd.R_below h2 b, fun j hj => ?_⟩
  obtain ⟨A, c, e1, e2, e3⟩ := h3 j hj
  exact ⟨A, c, e1, e2, e3.below b⟩
theorem OutU.set {w : World} {base : Nat} {v : Value} {xs : List (List Int)} (h : OutU w base v xs) {t : TypeId} (ht : t ≠ 37) (ht3 : t ≠ 3) {g : Nat} {cl : Array Value} (hg : w.heap[g]? = some (.cells cl t (0, 0))) (i : Nat) (u : Value) : OutU (w.setCell ⟨g, i, none⟩ u) base v xs := by
  obtain ⟨rows, h1, h2, h3⟩ := h
  refine ⟨rows, h1, raw_set h2 ht hg i u, fun j hj => ?_⟩
  obtain ⟨A, c, e1, e2, e3⟩ := h3 j hj
  exact ⟨A, c, e1, e2, e3.set hg ht3 i u⟩
theorem OutU.nil (w : World) (base : Nat) : OutU w base (.slice none 0 0) [] := ⟨[], rfl, Kd.R_nil _ _ _ _ _, fun j h => absurd h (by simp)⟩
theorem OutU.slice {w : World} {base : Nat} {v : Value} {xs : List (List Int)} (h : OutU w base v xs) : ∃ A c, v = .slice A xs.length c ∧ xs.length ≤ c := by
  obtain ⟨rows, h1, h2, _⟩ := h
  obtain ⟨A, c, e, hc, _⟩ := Kd.R_reads h2
  rw [h1] at e hc
  exact ⟨A, c, e, hc⟩
theorem OutU.reads {w : World} {base : Nat} {v : Value} {xs : List (List Int)} (h : OutU w base v xs) (hl : ∀ x ∈ xs, x.length ≤ 1000000) : ∃ A c, v = .slice A xs.length c ∧ xs.length ≤ c ∧ Kd.C (Kd.slice 3 (Kd.int .i64)) w A xs.length xs := by
  obtain ⟨rows, h1, h2, h3⟩ := h
  obtain ⟨A, c, e, hc, hC⟩ := Kd.R_reads h2
  rw [h1] at e hc hC
  obtain ⟨e1, e2, e3⟩ := hC
  refine ⟨A, c, e, hc, ⟨rfl, by rw [← h1] at *; exact e2, fun h0 => ?_⟩⟩
  obtain ⟨ad, ea, hr⟩ := e3 h0
  refine ⟨ad, ea, fun j p hp => ?_⟩
  obtain ⟨hj, rfl⟩ := List.getElem?_eq_some_iff.1 hp
  obtain ⟨A2, c2, r1, r2, r3⟩ := h3 j hj
  obtain ⟨cs, g1, ⟨g2, _, _⟩, g3⟩ := hr j _ r1
  subst g2
  exact ⟨_, rfl, ⟨A2, c2, rfl, r2, r3.c (hl _ (List.getElem_mem hj))⟩, g3⟩
theorem OutU.snoc {w w' : World} {base : Nat} {v v' : Value} {xs : List (List Int)} {rows : List (List Value)} (x : List Int) (A : Option Addr) (c : Nat) (h1 : rows.length = xs.length) (h2 : Kd.R (Kd.raw 1) 37 w base (fun _ => True) v rows)
    (h3 : ∀ (j : Nat) (h : j < xs.length), ∃ A c, rows[j]? = some [.slice A xs[j].length c] ∧ xs[j].length ≤ c ∧ NumS w A xs[j]) (hg : w.grownBy w' v.ownBlock) (hx : x.length ≤ c) (hn : NumS w A x)
    (h4 : Kd.R (Kd.raw 1) 37 w' base (fun _ => True) v' (rows ++ [[.slice A x.length c]])) : OutU w' base v' (xs ++ [x]) := by
  refine ⟨_, by simp [h1], h4, fun j hj => ?_⟩
  by_cases hlt : j < xs.length
  · obtain ⟨A2, c2, e1, e2, e3⟩ := h3 j hlt
    refine ⟨A2, c2, ?_, ?_, ?_⟩
    · rw [List.getElem?_append_left (by omega), e1, List.getElem_append_left hlt]
    · rw [List.getElem_append_left hlt]; exact e2
    · rw [List.getElem_append_left hlt]; exact e3.grown hg (raw_away h2 (by decide))
  · have hj2 : j = xs.length := by simp at hj; omega
    subst hj2
    refine ⟨A, c, ?_, ?_, ?_⟩
    · have := List.getElem?_concat_length (l := rows) (a := [.slice A x.length c])
      rw [h1] at this
      rw [this]; simp
    · simpa using hx
    · simpa using hn.grown hg (raw_away h2 (by decide))
theorem info37 : (Tryd.prog.info? 37).map (fun i => (i.zero, i.size, i.bytes)) = some (some (.slice none 0 0), 1, 24) := by kernel_rfl
theorem blk_cell6 {w : World} {g : Nat} {c0 c1 c2 c3 c4 c5 : Value} {t : TypeId} (h : w.heap[g]? = some (.cells #[c0, c1, c2, c3, c4, c5] t (0, 0))) :
    w.cell? ⟨g, 0, none⟩ = some c0 ∧ w.cell? ⟨g, 1, none⟩ = some c1 ∧ w.cell? ⟨g, 2, none⟩ = some c2 ∧ w.cell? ⟨g, 3, none⟩ = some c3 ∧ w.cell? ⟨g, 4, none⟩ = some c4 ∧ w.cell? ⟨g, 5, none⟩ = some c5 := by
  refine ⟨?_, ?_, ?_, ?_, ?_, ?_⟩ <;> simp [World.cell?, h]
theorem blk_froz {w : World} {g : Nat} {cs : Array Value} {t : TypeId} (h : w.heap[g]? = some (.cells cs t (0, 0))) : ∀ i, w.frozen? ⟨g, i, none⟩ = false := fun i => by simp [World.frozen?, h]
/-- A result's cells, laid one by one. -/
theorem fin46 {w0 w : World} {R : Nat} {a0 a1 a2 a3 a4 a5 : Value} (v0 v1 v2 v3 v4 v5 : Value) (b : Below w0.heap.size w0 w) (hR : w0.heap.size ≤ R) (h : w.heap[R]? = some (.cells #[a0, a1, a2, a3, a4, a5] 46 (0, 0))) :
    ((((((w.setCell ⟨R, 0, none⟩ v0).setCell ⟨R, 1, none⟩ v1).setCell ⟨R, 2, none⟩ v2).setCell ⟨R, 3, none⟩ v3).setCell ⟨R, 4, none⟩ v4).setCell ⟨R, 5, none⟩ v5).heap[R]? = some (.cells #[v0, v1, v2, v3, v4, v5] 46 (0, 0)) ∧ Below w0.heap.size w0 ((((((w.setCell ⟨R, 0, none⟩ v0).setCell ⟨R, 1, none⟩ v1).setCell ⟨R, 2, none⟩ v2).setCell ⟨R, 3, none⟩ v3).setCell ⟨R, 4, none⟩ v4).setCell ⟨R, 5, none⟩ v5) ∧ ∀ v xs, OutU w w0.heap.size v xs → OutU ((((((w.setCell ⟨R, 0, none⟩ v0).setCell ⟨R, 1, none⟩ v1).setCell ⟨R, 2, none⟩ v2).setCell ⟨R, 3, none⟩ v3).setCell ⟨R, 4, none⟩ v4).setCell ⟨R, 5, none⟩ v5) w0.heap.size v xs := by
  have k0 := blk_put (cs' := #[v0, a1, a2, a3, a4, a5]) h 0 v0 rfl
  have k1 := blk_put (cs' := #[v0, v1, a2, a3, a4, a5]) k0 1 v1 rfl
  have k2 := blk_put (cs' := #[v0, v1, v2, a3, a4, a5]) k1 2 v2 rfl
  have k3 := blk_put (cs' := #[v0, v1, v2, v3, a4, a5]) k2 3 v3 rfl
  have k4 := blk_put (cs' := #[v0, v1, v2, v3, v4, a5]) k3 4 v4 rfl
  have k5 := blk_put (cs' := #[v0, v1, v2, v3, v4, v5]) k4 5 v5 rfl
  exact ⟨k5, ((((((b.setCell hR _).setCell hR _).setCell hR _).setCell hR _).setCell hR _).setCell hR _), fun v xs hn => (((((hn.set (by decide) (by decide) h 0 _).set (by decide) (by decide) k0 1 _).set (by decide) (by decide) k1 2 _).set (by decide) (by decide) k2 3 _).set (by decide) (by decide) k3 4 _).set (by decide) (by decide) k4 5 _⟩
/-- What ParseConf answers. -/
structure ConfRes (s : List UInt8) (w w' : World) (e : Ending) : Prop where mk :: (out : ∃ v, e = .returned (.tuple #[.agg #[.int .i64 (valC s).variant, .int .i64 (valC s).width, .int .i64 (valC s).cap, .int .i64 (valC s).prod, .int .u64 ((valC s).start : Nat), v], .bool (resC s)]) ∧ OutU w' w.heap.size v (valC s).up ∧ Below w.heap.size w w')
theorem confRes_no {s : List UInt8} {w w' : World} (h : resC s = false) (b : Below w.heap.size w w') : ConfRes s w w' (.returned (.tuple #[.agg #[.int .i64 0, .int .i64 0, .int .i64 0, .int .i64 0, .int .u64 0, .slice none 0 0], .bool false])) := by
  have h1 : valC s = ⟨0, 0, 0, 0, 0, []⟩ := by unfold valC; rw [if_neg (by rw [h]; decide)]
  exact ⟨_, by rw [h1, h]; rfl, by rw [h1]; exact OutU.nil _ _, b⟩
theorem confRes_yes {s : List UInt8} {w w' : World} {v : Value} (h : resC s = true) {a b c d : Int} {m : Nat} {up : List (List Int)} (e1 : confV (wordsOf s) = ⟨a, b, c, d, m, up⟩) (hn : OutU w' w.heap.size v up) (bl : Below w.heap.size w w') : ConfRes s w w' (.returned (.tuple #[.agg #[.int .i64 a, .int .i64 b, .int .i64 c, .int .i64 d, .int .u64 (m : Int), v], .bool true])) := by
  have h1 : valC s = confV (wordsOf s) := by unfold valC; rw [if_pos h]
  exact ⟨v, by rw [h1, h, e1], by rw [h1, e1]; exact hn, bl⟩
theorem one1 (A : Option Addr) (l : List Int) (c : Nat) : ∀ u ∈ [Value.slice A l.length c], u.oneCell' = true := by
  intro u hu
  rw [List.mem_singleton] at hu
  subst hu; rfl
theorem at6 (x0 x1 x2 x3 x4 x5 : List UInt8) (r : List (List UInt8)) (j : Nat) (h : j < r.length) (h2 : 6 + j < (x0 :: x1 :: x2 :: x3 :: x4 :: x5 :: r).length) : (x0 :: x1 :: x2 :: x3 :: x4 :: x5 :: r)[6 + j] = r[j] := by
  simp only [show 6 + j = j + 1 + 1 + 1 + 1 + 1 + 1 by omega, List.getElem_cons_succ]
theorem bigw_ (x : List UInt8) (hx : x.length ≤ 100000) (w : World) (hw : LibW w) : Calls Tryd.prog 19 #[.string (bs x)] w fun e w' => e = .returned (.tuple #[.int .u64 (((bigOf x).getD 0 : Nat) : Int), .bool (bigOf x).isSome]) ∧ Below w.heap.size w w' := by
  have h := big_w (bs x) (by rw [bs_size]; omega) w hw
  rwa [bs_data] at h
def gdC (v a b p : List UInt8) (i : Nat) : Bool := decide (varOf v ≠ 0) && (decide (i < 1) || (numOf a).isSome) && (decide (i < 2) || (numOf b).isSome) && (decide (i < 3) || (numOf p).isSome)
def fvC (a : List UInt8) (l i : Nat) : Int := if l < i then (numOf a).getD 0 else 0
def evC (v a b p : List UInt8) (i : Nat) : Array Value := #[.int .i64 (varOf v), .int .i64 (fvC a 0 i), .int .i64 (fvC b 1 i), .int .i64 (fvC p 2 i), .int .u64 0, .slice none 0 0]
def ecC (v a b p : List UInt8) (sv : Nat) (u : Value) : Array Value := #[.int .i64 (varOf v), .int .i64 ((numOf a).getD 0), .int .i64 ((numOf b).getD 0), .int .i64 ((numOf p).getD 0), .int .u64 (sv : Int), u]
/-- What stands while a configuration is read. -/
structure CS (w0 w : World) (g : Nat) (ws : List (List UInt8)) (E : Nat) (ev : Array Value) : Prop where
  b : Below w0.heap.size w0 w
  r : w.heap[w0.heap.size]? = some (.cells #[.int .i64 0, .int .i64 0, .int .i64 0, .int .i64 0, .int .u64 0, .slice none 0 0] 46 (0, 0))
  t : ∃ cl, w.heap[g]? = some (.cells cl 9 (0, 0)) ∧ ∀ j (hj : j < ws.length), cl[j]? = some (.string (bs ws[j]))
  e : w.heap[E]? = some (.cells ev 46 (0, 0))
  ne : w0.heap.size ≠ E
  ge : w0.heap.size ≤ E
theorem CS.step {w0 w w' : World} {g : Nat} {ws : List (List UInt8)} {E : Nat} {ev : Array Value} (h : CS w0 w g ws E ev) (b : Below w.heap.size w w') : CS w0 w' g ws E ev := by
  obtain ⟨cl, h1, h2⟩ := h.t
  exact ⟨h.b.trans (b.mono h.b.size), blk_below h.r b, ⟨cl, blk_below h1 b, h2⟩, blk_below h.e b, h.ne, h.ge⟩
theorem CS.put {w0 w : World} {g : Nat} {ws : List (List UInt8)} {E : Nat} {ev : Array Value} (h : CS w0 w g ws E ev) (i : Nat) (u : Value) : CS w0 (w.setCell ⟨E, i, none⟩ u) g ws E (ev.setIfInBounds i u) := by
  obtain ⟨cl, h1, h2⟩ := h.t
  exact ⟨h.b.setCell h.ge _, blk_far h.r h.ne _, ⟨cl, blk_far h1 (fun e2 => blk_ne h1 h.e (by decide) e2) _, h2⟩, blk_set h.e i u, h.ne, h.ge⟩
theorem CS.grown {w0 w w' : World} {g : Nat} {ws : List (List UInt8)} {E : Nat} {ev : Array Value} (h : CS w0 w g ws E ev) {row : Option Nat} (hg : w.grownBy w' row) (b : Below w0.heap.size w0 w') (h46 : ∀ g cl, w.heap[g]? = some (.cells cl 46 (0, 0)) → some g ≠ row) (h9 : ∀ g cl, w.heap[g]? = some (.cells cl 9 (0, 0)) → some g ≠ row) : CS w0 w' g ws E ev := by
  obtain ⟨cl, h1, h2⟩ := h.t
  exact ⟨b, blk_grown h.r hg (h46 _ _ h.r), ⟨cl, blk_grown h1 hg (h9 _ _ h1), h2⟩, blk_grown h.e hg (h46 _ _ h.e), h.ne, h.ge⟩
theorem CS.at {w0 w : World} {g : Nat} {ws : List (List UInt8)} {E : Nat} {ev : Array Value} (h : CS w0 w g ws E ev) (j : Nat) (hj : j < ws.length) : w.cell? ⟨g, j, none⟩ = some (.string (bs ws[j])) := by
  obtain ⟨cl, h1, h2⟩ := h.t
  exact (blk_cell h1 j).trans (h2 j hj)
set_option maxHeartbeats 8000000 in
theorem conf_none (s : List UInt8) (hs : s.length ≤ 65536) (w : World) (hw : LibW w) (h : lineB s = false ∨ (wordsOf s).length < 6) :
    Calls Tryd.prog 29 #[.string (bs s)] w fun e w' => ConfRes s w w' e := by
  have HW := Aside.mk hw
  have HS := Aside.mk (split_w (bs s) (by rw [bs_size]; omega))
  have HSL := Aside.mk hs
  have HB := Aside.mk (below_alloc (Below.refl w.heap.size w) (.cells #[.int .i64 0, .int .i64 0, .int .i64 0, .int .i64 0, .int .u64 0, .slice none 0 0] 46))
  have HR := Aside.mk (heap_alloc_new w (.cells #[.int .i64 0, .int .i64 0, .int .i64 0, .int .i64 0, .int .u64 0, .slice none 0 0] 46))
  have HN := Aside.mk (show resC s = false from by
    unfold resC
    rcases h with h | h
    · rw [h]; rfl
    · have : confG (wordsOf s) = false := by
        match hws : wordsOf s with
        | [] => rfl
        | [_] => rfl
        | [_, _] => rfl
        | [_, _, _] => rfl
        | [_, _, _, _] => rfl
        | [_, _, _, _, _] => rfl
        | _ :: _ :: _ :: _ :: _ :: _ :: _ => rw [hws] at h; simp at h; omega
      rw [this, Bool.and_false])
  have HH := Aside.mk h
  clear h
  clear hs hw
  go_enter Tryd.func29, Tryd.ntmps29
  go_wp2_with fail
  refine (HS.out _ (HW.out.below HB.out)).mono ?_
  rintro r w1 ⟨hsr, hb⟩
  replace HR := Aside.mk (blk_below HR.out hb)
  replace HB := Aside.mk (HB.out.trans (hb.mono HB.out.size))
  clear hb HS
  unfold SplitRes at hsr
  rw [bs_data] at hsr
  rcases hsr with ⟨h1, rfl⟩ | ⟨_, h2, rfl⟩ | ⟨_, h2, A, c, rfl, hc, ht⟩
  · exact absurd h1 (by have := HSL.out; omega)
  · clear h2
    have HF := Aside.mk (fin46 (w0 := w) (R := w.heap.size) (.int .i64 0) (.int .i64 0) (.int .i64 0) (.int .i64 0) (.int .u64 0) (.slice none 0 0) HB.out (Nat.le_refl _) HR.out)
    obtain ⟨r0, r1, r2, r3, r4, r5⟩ := blk_cell6 HR.out
    have fr0 := blk_froz HR.out 0
    have fr1 := blk_froz HR.out 1
    have fr2 := blk_froz HR.out 2
    have fr3 := blk_froz HR.out 3
    have fr4 := blk_froz HR.out 4
    have fr5 := blk_froz HR.out 5
    go_wp2
    refine bodyPost_ret (results_ct rfl _ _ w.heap.size 46 #[.int .i64 0, .int .i64 0, .int .i64 0, .int .i64 0, .int .u64 0, .slice none 0 0] (0, 0) _ rfl HF.out.1 Tryd.underlying46 rfl (by kernel_rfl)) rfl ?_
    exact confRes_no HN.out HF.out.2.1
  · have hlen : (wordsOf s).length < 6 := by
      rcases HH.out with h | h
      · rw [h2] at h; cases h
      · exact h
    clear h2 hc ht
    generalize (wordsOf s).length = n at *
    have t1 : decide ((n : Int) < 6) = true := decide_eq_true (by omega)
    have t2 : decide (n < 6) = true := decide_eq_true hlen
    clear hlen
    have HF := Aside.mk (fin46 (w0 := w) (R := w.heap.size) (.int .i64 0) (.int .i64 0) (.int .i64 0) (.int .i64 0) (.int .u64 0) (.slice none 0 0) HB.out (Nat.le_refl _) HR.out)
    obtain ⟨r0, r1, r2, r3, r4, r5⟩ := blk_cell6 HR.out
    have fr0 := blk_froz HR.out 0
    have fr1 := blk_froz HR.out 1
    have fr2 := blk_froz HR.out 2
    have fr3 := blk_froz HR.out 3
    have fr4 := blk_froz HR.out 4
    have fr5 := blk_froz HR.out 5
    go_wp2
    refine bodyPost_ret (results_ct rfl _ _ w.heap.size 46 #[.int .i64 0, .int .i64 0, .int .i64 0, .int .i64 0, .int .u64 0, .slice none 0 0] (0, 0) _ rfl HF.out.1 Tryd.underlying46 rfl (by kernel_rfl)) rfl ?_
    exact confRes_no HN.out HF.out.2.1
set_option maxHeartbeats 8000000 in
theorem conf_ring (s : List UInt8) (hs : s.length ≤ 65536) (w : World) (hw : LibW w) (hlb : lineB s = true) (rg v a b p st : List UInt8) (ups : List (List UInt8)) (hws : wordsOf s = rg :: v :: a :: b :: p :: st :: ups) (hr : rg ≠ ringT) :
    Calls Tryd.prog 29 #[.string (bs s)] w fun e w' => ConfRes s w w' e := by
  have HW := Aside.mk hw
  have HS := Aside.mk (split_w (bs s) (by rw [bs_size]; omega))
  have HSL := Aside.mk hs
  have HB := Aside.mk (below_alloc (Below.refl w.heap.size w) (.cells #[.int .i64 0, .int .i64 0, .int .i64 0, .int .i64 0, .int .u64 0, .slice none 0 0] 46))
  have HR := Aside.mk (heap_alloc_new w (.cells #[.int .i64 0, .int .i64 0, .int .i64 0, .int .i64 0, .int .u64 0, .slice none 0 0] 46))
  have HRR := Aside.mk hr
  clear hr
  have HLB := Aside.mk hlb
  have HWS := Aside.mk hws
  have HQ := Aside.mk (show resC s = confG (rg :: v :: a :: b :: p :: st :: ups) from by unfold resC; rw [hlb, hws]; rfl)
  have HLX := Aside.mk (show ∀ x ∈ (rg :: v :: a :: b :: p :: st :: ups), x.length ≤ 100000 from fun x hx => by have := sp_len s x (by rw [hws]; exact hx); omega)
  have HUL := Aside.mk (show ups.length ≤ 65537 by
    have h1 := sp_count 32 s
    have h2 : (wordsOf s).length ≤ s.length + 1 := by
      unfold wordsOf
      split
      · simp
      · exact h1
    rw [hws] at h2
    simp at h2
    omega)
  clear hlb hws
  clear hs hw
  go_enter Tryd.func29, Tryd.ntmps29
  go_wp2_with fail
  refine (HS.out _ (HW.out.below HB.out)).mono ?_
  rintro r w1 ⟨hsr, hb⟩
  replace HR := Aside.mk (blk_below HR.out hb)
  replace HB := Aside.mk (HB.out.trans (hb.mono HB.out.size))
  clear hb HS
  unfold SplitRes at hsr
  rw [bs_data] at hsr
  rcases hsr with ⟨h1, _⟩ | ⟨_, h2, _⟩ | ⟨_, h2, A, c, rfl, hc, ht⟩
  · exact absurd h1 (by have := HSL.out; omega)
  · rw [HLB.out] at h2; cases h2
  rw [HWS.out] at hc ht ⊢
  obtain ⟨g, cl, rfl, hcb, hcc⟩ := ht (by simp)
  have HT := Aside.mk (show ∃ cl, w1.heap[g]? = some (.cells cl 9 (0, 0)) ∧ ∀ j (hj : j < (rg :: v :: a :: b :: p :: st :: ups).length), cl[j]? = some (.string (bs (rg :: v :: a :: b :: p :: st :: ups)[j])) from ⟨cl, hcb, hcc⟩)
  have c0 := (blk_cell hcb 0).trans (hcc 0 (by simp))
  have c1 := (blk_cell hcb 1).trans (hcc 1 (by simp))
  have HCC := Aside.mk hc
  clear h2 hc ht hcb hcc
  simp only [List.getElem_cons_zero, List.getElem_cons_succ, List.length_cons] at c0 c1 HCC ⊢
  have t1 : decide (((ups.length + 1 + 1 + 1 + 1 + 1 + 1 : Nat) : Int) < 6) = false := decide_eq_false (by omega)
  have t2 : decide ((ups.length : Int) + 1 + 1 + 1 + 1 + 1 + 1 < 6) = false := decide_eq_false (by omega)
  have t3 : decide (ups.length + 1 + 1 + 1 + 1 + 1 + 1 < 6) = false := decide_eq_false (by omega)
  have HN := Aside.mk (show resC s = false from by rw [HQ.out]; simp [confG, HRR.out])
  have q0 : (!((bs rg).toList == [114, 105, 110, 103])) = true := by rw [bs_toList, Bool.not_eq_true', beq_eq_false_iff_ne]; exact HRR.out
  have HF := Aside.mk (fin46 (w0 := w) (R := w.heap.size) (.int .i64 0) (.int .i64 0) (.int .i64 0) (.int .i64 0) (.int .u64 0) (.slice none 0 0) HB.out (Nat.le_refl _) HR.out)
  obtain ⟨r0, r1, r2, r3, r4, r5⟩ := blk_cell6 HR.out
  have fr0 := blk_froz HR.out 0
  have fr1 := blk_froz HR.out 1
  have fr2 := blk_froz HR.out 2
  have fr3 := blk_froz HR.out 3
  have fr4 := blk_froz HR.out 4
  have fr5 := blk_froz HR.out 5
  go_wp2
  refine bodyPost_ret (results_ct rfl _ _ w.heap.size 46 #[.int .i64 0, .int .i64 0, .int .i64 0, .int .i64 0, .int .u64 0, .slice none 0 0] (0, 0) _ rfl HF.out.1 Tryd.underlying46 rfl (by kernel_rfl)) rfl ?_
  exact confRes_no HN.out HF.out.2.1
set_option maxHeartbeats 8000000 in
theorem conf_main (s : List UInt8) (hs : s.length ≤ 65536) (w : World) (hw : LibW w) (hlb : lineB s = true) (rg v a b p st : List UInt8) (ups : List (List UInt8)) (hws : wordsOf s = rg :: v :: a :: b :: p :: st :: ups) (hr : rg = ringT) :
    Calls Tryd.prog 29 #[.string (bs s)] w fun e w' => ConfRes s w w' e := by
  have HW := Aside.mk hw
  have HS := Aside.mk (split_w (bs s) (by rw [bs_size]; omega))
  have HSL := Aside.mk hs
  have HB := Aside.mk (below_alloc (Below.refl w.heap.size w) (.cells #[.int .i64 0, .int .i64 0, .int .i64 0, .int .i64 0, .int .u64 0, .slice none 0 0] 46))
  have HR := Aside.mk (heap_alloc_new w (.cells #[.int .i64 0, .int .i64 0, .int .i64 0, .int .i64 0, .int .u64 0, .slice none 0 0] 46))
  have HRR := Aside.mk hr
  clear hr
  have HLB := Aside.mk hlb
  have HWS := Aside.mk hws
  have HQ := Aside.mk (show resC s = confG (rg :: v :: a :: b :: p :: st :: ups) from by unfold resC; rw [hlb, hws]; rfl)
  have HLX := Aside.mk (show ∀ x ∈ (rg :: v :: a :: b :: p :: st :: ups), x.length ≤ 100000 from fun x hx => by have := sp_len s x (by rw [hws]; exact hx); omega)
  have HUL := Aside.mk (show ups.length ≤ 65537 by
    have h1 := sp_count 32 s
    have h2 : (wordsOf s).length ≤ s.length + 1 := by
      unfold wordsOf
      split
      · simp
      · exact h1
    rw [hws] at h2
    simp at h2
    omega)
  clear hlb hws
  clear hs hw
  go_enter Tryd.func29, Tryd.ntmps29
  go_wp2_with fail
  refine (HS.out _ (HW.out.below HB.out)).mono ?_
  rintro r w1 ⟨hsr, hb⟩
  replace HR := Aside.mk (blk_below HR.out hb)
  replace HB := Aside.mk (HB.out.trans (hb.mono HB.out.size))
  clear hb HS
  unfold SplitRes at hsr
  rw [bs_data] at hsr
  rcases hsr with ⟨h1, _⟩ | ⟨_, h2, _⟩ | ⟨_, h2, A, c, rfl, hc, ht⟩
  · exact absurd h1 (by have := HSL.out; omega)
  · rw [HLB.out] at h2; cases h2
  rw [HWS.out] at hc ht ⊢
  obtain ⟨g, cl, rfl, hcb, hcc⟩ := ht (by simp)
  have HT := Aside.mk (show ∃ cl, w1.heap[g]? = some (.cells cl 9 (0, 0)) ∧ ∀ j (hj : j < (rg :: v :: a :: b :: p :: st :: ups).length), cl[j]? = some (.string (bs (rg :: v :: a :: b :: p :: st :: ups)[j])) from ⟨cl, hcb, hcc⟩)
  have c0 := (blk_cell hcb 0).trans (hcc 0 (by simp))
  have c1 := (blk_cell hcb 1).trans (hcc 1 (by simp))
  have HCC := Aside.mk hc
  clear h2 hc ht hcb hcc
  simp only [List.getElem_cons_zero, List.getElem_cons_succ, List.length_cons] at c0 c1 HCC ⊢
  have t1 : decide (((ups.length + 1 + 1 + 1 + 1 + 1 + 1 : Nat) : Int) < 6) = false := decide_eq_false (by omega)
  have t2 : decide ((ups.length : Int) + 1 + 1 + 1 + 1 + 1 + 1 < 6) = false := decide_eq_false (by omega)
  have t3 : decide (ups.length + 1 + 1 + 1 + 1 + 1 + 1 < 6) = false := decide_eq_false (by omega)
  have q0 : (!((bs rg).toList == [114, 105, 110, 103])) = false := by rw [bs_toList, HRR.out]; rfl
  go_wp2_with (go_at_call 57; refine (find_ v _).mono ?_)
  rintro r w2 ⟨rfl, hb⟩
  replace HT := Aside.mk (by obtain ⟨cl, h1, h2⟩ := HT.out; exact ⟨cl, blk_below h1 hb, h2⟩ : ∃ cl, w2.heap[g]? = some (.cells cl 9 (0, 0)) ∧ ∀ j (hj : j < (rg :: v :: a :: b :: p :: st :: ups).length), cl[j]? = some (.string (bs (rg :: v :: a :: b :: p :: st :: ups)[j])))
  replace HR := Aside.mk (blk_below HR.out hb)
  replace HB := Aside.mk (HB.out.trans (hb.mono HB.out.size))
  clear hb c0 c1 q0 t1 t2 t3
  have HC := Aside.mk (show CS w (w2.alloc (.cells #[.int .i64 (varOf v), .int .i64 0, .int .i64 0, .int .i64 0, .int .u64 0, .slice none 0 0] 46)) g (rg :: v :: a :: b :: p :: st :: ups) w2.heap.size #[.int .i64 (varOf v), .int .i64 0, .int .i64 0, .int .i64 0, .int .u64 0, .slice none 0 0] from
    ⟨below_alloc HB.out _, blk_alloc HR.out _, by obtain ⟨cl, h1, h2⟩ := HT.out; exact ⟨cl, blk_alloc h1 _, h2⟩, heap_alloc_new _ _, Nat.ne_of_lt (blk_lt HR.out), HB.out.size⟩)
  go_upto_region 5 with (fail)
  clear HB HR HT
  generalize w2.alloc (.cells #[.int .i64 (varOf v), .int .i64 0, .int .i64 0, .int .i64 0, .int .u64 0, .slice none 0 0] 46) = w3 at *
  generalize w2.heap.size = E at *
  obtain ⟨e0, e1, e2, e3, e4, e5⟩ := blk_cell6 HC.out.e
  have HG0 := Aside.mk (show (varOf v != 0) = gdC v a b p 0 from by unfold gdC; by_cases h : varOf v = 0 <;> simp [h])
  go_upto_block 0 with (fail)
  have HGP := Aside.mk (heap_alloc_new w3 (.cells #[.pointer (some ⟨E, 1, none⟩), .pointer (some ⟨E, 2, none⟩), .pointer (some ⟨E, 3, none⟩)] 95))
  replace HC := Aside.mk (HC.out.step (below_alloc (Below.refl w3.heap.size w3) (.cells #[.pointer (some ⟨E, 1, none⟩), .pointer (some ⟨E, 2, none⟩), .pointer (some ⟨E, 3, none⟩)] 95)))
  clear e0 e1 e2 e3 e4 e5
  generalize w3.alloc (.cells #[.pointer (some ⟨E, 1, none⟩), .pointer (some ⟨E, 2, none⟩), .pointer (some ⟨E, 3, none⟩)] 95) = w4 at *
  generalize w3.heap.size = GP at *
  go_wp2_with fail
  go_loopw [7, 50] (fun gd x wr => ∃ i : Nat, i ≤ 3 ∧ x = .int .i64 i ∧ gd = .bool (gdC v a b p i) ∧ Aside (CS w wr g (rg :: v :: a :: b :: p :: st :: ups) E (evC v a b p i)) ∧ Aside (wr.heap[GP]? = some (.cells #[.pointer (some ⟨E, 1, none⟩), .pointer (some ⟨E, 2, none⟩), .pointer (some ⟨E, 3, none⟩)] 95 (0, 0)))) (fun _ x _ => 3 - (intOf x).toNat)
  case atStart => exact ⟨0, by omega, rfl, by rw [HG0.out], HC, HGP⟩
  case round =>
    clear HC HGP HG0
    obtain ⟨i, hi, rfl, rfl, HC, HGP⟩ := hrel
    have hi4 : i = 0 ∨ i = 1 ∨ i = 2 ∨ i = 3 := by omega
    rcases hi4 with rfl | rfl | rfl | rfl
    · clear hi
      have c2 := HC.out.at 2 (by simp; try omega)
      simp only [List.getElem_cons_zero, List.getElem_cons_succ] at c2
      have hp := (blk_cell HGP.out 0).trans rfl
      go_wp2_with fail
      refine (numw_ a (HLX.out a (by simp)) _ (HW.out.below HC.out.b)).mono ?_
      rintro r w5 ⟨rfl, hb⟩
      replace HC := Aside.mk (HC.out.step hb)
      replace HGP := Aside.mk (blk_below HGP.out hb)
      clear hb c2 hp
      have HGS := Aside.mk (show gdC v a b p 1 = (gdC v a b p 0 && (numOf a).isSome) from by simp [gdC, Bool.and_assoc, Bool.and_comm, Bool.and_left_comm])
      have HEV := Aside.mk (show (evC v a b p 0).setIfInBounds 1 (.int .i64 ((numOf a).getD 0)) = evC v a b p 1 from by simp [evC, fvC])
      obtain ⟨e0, e1, e2, e3, e4, e5⟩ := blk_cell6 (show w5.heap[E]? = some (.cells #[.int .i64 (varOf v), .int .i64 (fvC a 0 0), .int .i64 (fvC b 1 0), .int .i64 (fvC p 2 0), .int .u64 0, .slice none 0 0] 46 (0, 0)) from HC.out.e)
      have fe := blk_froz HC.out.e 1
      go_upto_region 11 with (fail)
      have HC0 := Aside.mk HC.out.e
      replace HC := Aside.mk (HC.out.put 1 (.int .i64 ((numOf a).getD 0)))
      rw [HEV.out] at HC
      replace HGP := Aside.mk (blk_far HGP.out (p := ⟨E, 1, none⟩) (fun e => blk_ne HGP.out HC0.out (by decide) e) (.int .i64 ((numOf a).getD 0)))
      clear e0 e1 e2 e3 e4 e5 fe HEV HC0
      generalize w5.setCell ⟨E, 1, none⟩ (.int .i64 ((numOf a).getD 0)) = w6 at *
      generalize (numOf a).isSome = ok at *
      cases hg : gdC v a b p 0
      all_goals
        rw [hg] at HGS
        clear hg
        go_wp2
        go_roundw
        case rel => exact ⟨1, by omega, by first | rfl | simp, by rw [HGS.out]; rfl, HC, HGP⟩
        case measure => simp [intOf]
    · clear hi
      have c2 := HC.out.at 3 (by simp; try omega)
      simp only [List.getElem_cons_zero, List.getElem_cons_succ] at c2
      have hp := (blk_cell HGP.out 1).trans rfl
      go_wp2_with fail
      refine (numw_ b (HLX.out b (by simp)) _ (HW.out.below HC.out.b)).mono ?_
      rintro r w5 ⟨rfl, hb⟩
      replace HC := Aside.mk (HC.out.step hb)
      replace HGP := Aside.mk (blk_below HGP.out hb)
      clear hb c2 hp
      have HGS := Aside.mk (show gdC v a b p 2 = (gdC v a b p 1 && (numOf b).isSome) from by simp [gdC, Bool.and_assoc, Bool.and_comm, Bool.and_left_comm])
      have HEV := Aside.mk (show (evC v a b p 1).setIfInBounds 2 (.int .i64 ((numOf b).getD 0)) = evC v a b p 2 from by simp [evC, fvC])
      obtain ⟨e0, e1, e2, e3, e4, e5⟩ := blk_cell6 (show w5.heap[E]? = some (.cells #[.int .i64 (varOf v), .int .i64 (fvC a 0 1), .int .i64 (fvC b 1 1), .int .i64 (fvC p 2 1), .int .u64 0, .slice none 0 0] 46 (0, 0)) from HC.out.e)
      have fe := blk_froz HC.out.e 2
      go_upto_region 11 with (fail)
      have HC0 := Aside.mk HC.out.e
      replace HC := Aside.mk (HC.out.put 2 (.int .i64 ((numOf b).getD 0)))
      rw [HEV.out] at HC
      replace HGP := Aside.mk (blk_far HGP.out (p := ⟨E, 2, none⟩) (fun e => blk_ne HGP.out HC0.out (by decide) e) (.int .i64 ((numOf b).getD 0)))
      clear e0 e1 e2 e3 e4 e5 fe HEV HC0
      generalize w5.setCell ⟨E, 2, none⟩ (.int .i64 ((numOf b).getD 0)) = w6 at *
      generalize (numOf b).isSome = ok at *
      cases hg : gdC v a b p 1
      all_goals
        rw [hg] at HGS
        clear hg
        go_wp2
        go_roundw
        case rel => exact ⟨2, by omega, by first | rfl | simp, by rw [HGS.out]; rfl, HC, HGP⟩
        case measure => simp [intOf]
    · clear hi
      have c2 := HC.out.at 4 (by simp; try omega)
      simp only [List.getElem_cons_zero, List.getElem_cons_succ] at c2
      have hp := (blk_cell HGP.out 2).trans rfl
      go_wp2_with fail
      refine (numw_ p (HLX.out p (by simp)) _ (HW.out.below HC.out.b)).mono ?_
      rintro r w5 ⟨rfl, hb⟩
      replace HC := Aside.mk (HC.out.step hb)
      replace HGP := Aside.mk (blk_below HGP.out hb)
      clear hb c2 hp
      have HGS := Aside.mk (show gdC v a b p 3 = (gdC v a b p 2 && (numOf p).isSome) from by simp [gdC, Bool.and_assoc, Bool.and_comm, Bool.and_left_comm])
      have HEV := Aside.mk (show (evC v a b p 2).setIfInBounds 3 (.int .i64 ((numOf p).getD 0)) = evC v a b p 3 from by simp [evC, fvC])
      obtain ⟨e0, e1, e2, e3, e4, e5⟩ := blk_cell6 (show w5.heap[E]? = some (.cells #[.int .i64 (varOf v), .int .i64 (fvC a 0 2), .int .i64 (fvC b 1 2), .int .i64 (fvC p 2 2), .int .u64 0, .slice none 0 0] 46 (0, 0)) from HC.out.e)
      have fe := blk_froz HC.out.e 3
      go_upto_region 11 with (fail)
      have HC0 := Aside.mk HC.out.e
      replace HC := Aside.mk (HC.out.put 3 (.int .i64 ((numOf p).getD 0)))
      rw [HEV.out] at HC
      replace HGP := Aside.mk (blk_far HGP.out (p := ⟨E, 3, none⟩) (fun e => blk_ne HGP.out HC0.out (by decide) e) (.int .i64 ((numOf p).getD 0)))
      clear e0 e1 e2 e3 e4 e5 fe HEV HC0
      generalize w5.setCell ⟨E, 3, none⟩ (.int .i64 ((numOf p).getD 0)) = w6 at *
      generalize (numOf p).isSome = ok at *
      cases hg : gdC v a b p 2
      all_goals
        rw [hg] at HGS
        clear hg
        go_wp2
        go_roundw
        case rel => exact ⟨3, by omega, by first | rfl | simp, by rw [HGS.out]; rfl, HC, HGP⟩
        case measure => simp [intOf]
    · clear hi HGP
      have c2 := HC.out.at 5 (by simp)
      simp only [List.getElem_cons_zero, List.getElem_cons_succ] at c2
      generalize hg3 : gdC v a b p 3 = g3 at *
      have HG3 := Aside.mk hg3
      clear hg3
      go_wp2_with fail
      refine (bigw_ st (HLX.out st (by simp)) _ (HW.out.below HC.out.b)).mono ?_
      rintro r w5 ⟨rfl, hb⟩
      replace HC := Aside.mk (HC.out.step hb)
      clear hb c2
      generalize hst : (bigOf st).getD 0 = sv at *
      have HST := Aside.mk hst
      clear hst
      obtain ⟨e0, e1, e2, e3, e4, e5⟩ := blk_cell6 (show w5.heap[E]? = some (.cells #[.int .i64 (varOf v), .int .i64 (fvC a 0 3), .int .i64 (fvC b 1 3), .int .i64 (fvC p 2 3), .int .u64 0, .slice none 0 0] 46 (0, 0)) from HC.out.e)
      have fe := blk_froz HC.out.e 4
      go_upto_region 15 with (fail)
      replace HC := Aside.mk (HC.out.put 4 (.int .u64 (sv : Int)))
      rw [show (evC v a b p 3).setIfInBounds 4 (.int .u64 (sv : Int)) = ecC v a b p sv (.slice none 0 0) from by simp [evC, ecC, fvC]] at HC
      clear e0 e1 e2 e3 e4 e5 fe
      generalize w5.setCell ⟨E, 4, none⟩ (.int .u64 (sv : Int)) = w6 at *
      generalize hsk : (bigOf st).isSome = sk at *
      have HSK := Aside.mk hsk
      clear hsk
      go_cut [7] (fun gd wc => gd = .bool (g3 && sk) ∧ wc = w6)
      case first =>
        cases g3
        all_goals
          go_wp2
          go_meet
          case rel => exact ⟨rfl, rfl⟩
      case rest =>
        obtain ⟨rfl, rfl⟩ := hcut
        generalize hG : (g3 && sk) = G at *
        have HG := Aside.mk hG
        clear hG
        by_cases hc6 : c = 6
        · have HU0 := Aside.mk (show ups.length = 0 by have := HCC.out; omega)
          subst hc6
          go_upto_block 2 with (fail)
          go_wp2_with fail
          go_loopw [7, 88] (fun gd x wr => ∃ j : Nat, j ≤ ups.length ∧ x = .int .i64 j ∧ gd = .bool (G && (ups.take j).all fun u => (listOf u).isSome) ∧ ∃ v5, Aside (CS w wr g (rg :: v :: a :: b :: p :: st :: ups) E (ecC v a b p sv v5)) ∧ Aside (OutU wr w.heap.size v5 ((ups.take j).map fun u => (listOf u).getD []))) (fun _ x _ => ups.length - (intOf x).toNat)
          case atStart => exact ⟨0, Nat.zero_le _, rfl, by simp, _, HC, ⟨OutU.nil _ _⟩⟩
          case round =>
            clear HC
            obtain ⟨j, hj, rfl, rfl, v5, HC, HU⟩ := hrel
            by_cases hlt : j < ups.length
            · exact absurd hlt (by have := HU0.out; omega)
            · have t1 : decide ((j : Int) < (ups.length : Int)) = false := decide_eq_false (by omega)
              have t2 : decide (j < ups.length) = false := decide_eq_false hlt
              rw [List.take_of_length_le (by omega)] at HU ⊢
              clear hj hlt
              have HRC := Aside.mk (show resC s = (G && ups.all fun u => (listOf u).isSome) from by
                rw [HQ.out, ← HG.out, ← HSK.out, ← HG3.out]
                simp [confG, gdC, HRR.out, Bool.and_assoc])
              have HE := HC.out.e
              obtain ⟨e0, e1, e2, e3, e4, e5⟩ := blk_cell6 HE
              obtain ⟨Av, cv, ev, _⟩ := HU.out.slice
              cases hy : (G && ups.all fun u => (listOf u).isSome) with
              | false =>
                rw [hy] at HRC
                have HN := HRC
                have HF := Aside.mk (fin46 (w0 := w) (R := w.heap.size) (.int .i64 0) (.int .i64 0) (.int .i64 0) (.int .i64 0) (.int .u64 0) (.slice none 0 0) HC.out.b (Nat.le_refl _) HC.out.r)
                obtain ⟨r0, r1, r2, r3, r4, r5⟩ := blk_cell6 HC.out.r
                have fr := blk_froz HC.out.r
                have fr0 := fr 0
                have fr1 := fr 1
                have fr2 := fr 2
                have fr3 := fr 3
                have fr4 := fr 4
                have fr5 := fr 5
                clear fr hy ev
                go_wp2
                refine bodyPost_ret (results_ct rfl _ _ w.heap.size 46 #[.int .i64 0, .int .i64 0, .int .i64 0, .int .i64 0, .int .u64 0, .slice none 0 0] (0, 0) _ rfl HF.out.1 Tryd.underlying46 rfl (by kernel_rfl)) rfl ?_
                exact confRes_no HN.out HF.out.2.1
              | true =>
                rw [hy] at HRC
                have HE1 := Aside.mk (show confV (wordsOf s) = ⟨varOf v, (numOf a).getD 0, (numOf b).getD 0, (numOf p).getD 0, sv, ups.map fun u => (listOf u).getD []⟩ from by rw [HWS.out, ← HST.out]; rfl)
                generalize (ups.map fun u => (listOf u).getD []) = up at *
                subst ev
                have HF := Aside.mk (fin46 (w0 := w) (R := w.heap.size) (.int .i64 (varOf v)) (.int .i64 ((numOf a).getD 0)) (.int .i64 ((numOf b).getD 0)) (.int .i64 ((numOf p).getD 0)) (.int .u64 (sv : Int)) (.slice Av up.length cv) HC.out.b (Nat.le_refl _) HC.out.r)
                have HFU := Aside.mk (HF.out.2.2 _ _ HU.out)
                obtain ⟨r0, r1, r2, r3, r4, r5⟩ := blk_cell6 HC.out.r
                have fr := blk_froz HC.out.r
                have fr0 := fr 0
                have fr1 := fr 1
                have fr2 := fr 2
                have fr3 := fr 3
                have fr4 := fr 4
                have fr5 := fr 5
                clear fr hy
                go_wp2
                refine bodyPost_ret (results_ct rfl _ _ w.heap.size 46 #[.int .i64 (varOf v), .int .i64 ((numOf a).getD 0), .int .i64 ((numOf b).getD 0), .int .i64 ((numOf p).getD 0), .int .u64 (sv : Int), .slice Av up.length cv] (0, 0) _ rfl HF.out.1 Tryd.underlying46 rfl (by kernel_rfl)) rfl ?_
                exact confRes_yes HRC.out HE1.out HFU.out HF.out.2.1
        · have q2 : decide (6 ≤ c) = true := decide_eq_true (by have := HCC.out; omega)
          go_upto_block 2 with (fail)
          go_wp2_with fail
          go_loopw [7, 88] (fun gd x wr => ∃ j : Nat, j ≤ ups.length ∧ x = .int .i64 j ∧ gd = .bool (G && (ups.take j).all fun u => (listOf u).isSome) ∧ ∃ v5, Aside (CS w wr g (rg :: v :: a :: b :: p :: st :: ups) E (ecC v a b p sv v5)) ∧ Aside (OutU wr w.heap.size v5 ((ups.take j).map fun u => (listOf u).getD []))) (fun _ x _ => ups.length - (intOf x).toNat)
          case atStart => exact ⟨0, Nat.zero_le _, rfl, by simp, _, HC, ⟨OutU.nil _ _⟩⟩
          case round =>
            clear HC
            obtain ⟨j, hj, rfl, rfl, v5, HC, HU⟩ := hrel
            by_cases hlt : j < ups.length
            · have t1 : decide ((j : Int) < (ups.length : Int)) = true := decide_eq_true (by omega)
              have t2 : decide (j < ups.length) = true := decide_eq_true hlt
              have t3 : (j : Int) < (ups.length : Int) := by omega
              have HLT := Aside.mk hlt
              have ei := i1 (show j < 4611686018427387904 by have := HUL.out; omega)
              have c2 := HC.out.at (6 + j) (by simp; omega)
              rw [at6 rg v a b p st ups j hlt (by simp; omega)] at c2
              have c3 := c2
              rw [← add_offS] at c3
              have HTK := Aside.mk (List.take_succ_eq_append_getElem hlt)
              have HXL := Aside.mk (HLX.out ups[j] (by simp))
              generalize ups[j] = x at *
              obtain ⟨Av, cv, ev, _⟩ := HU.out.slice
              rw [List.length_map, List.length_take, Nat.min_eq_left (by omega)] at ev
              subst ev
              clear hj hlt
              go_wp2_with (go_at_call 20; refine (listw_ x HXL.out _ (HW.out.below HC.out.b)).mono ?_)
              rintro r w7 ⟨A2, cz, rfl, hcz, hnz, hb⟩
              have HCZ := Aside.mk hcz
              have HNZ := Aside.mk hnz
              replace HC := Aside.mk (HC.out.step hb)
              replace HU := Aside.mk (HU.out.below hb)
              clear hb hcz hnz c2 c3
              generalize hlx : (listOf x).getD [] = lx at *
              have HLXV := Aside.mk hlx
              clear hlx
              obtain ⟨rows, hr1, hr2, hr3⟩ := HU.out
              have HR1 := Aside.mk hr1
              have HR2 := Aside.mk hr2
              have HR3 := Aside.mk hr3
              have HRL := Aside.mk (show rows.length ≤ 65537 by rw [hr1, List.length_map, List.length_take]; have := HUL.out; omega)
              clear hr1 hr2 hr3 HU
              have HLN := Aside.mk (show ((ups.take j).map (fun u => (listOf u).getD []) ++ [lx]).length = j + 1 by simp; have := HLT.out; omega)
              have HMP := Aside.mk (show (ups.take (j + 1)).map (fun u => (listOf u).getD []) = (ups.take j).map (fun u => (listOf u).getD []) ++ [lx] by rw [HTK.out, List.map_append, List.map_cons, List.map_nil, HLXV.out])
              have HGN := Aside.mk (show (G && (ups.take (j + 1)).all fun u => (listOf u).isSome) = ((G && (ups.take j).all fun u => (listOf u).isSome) && (listOf x).isSome) by rw [HTK.out, List.all_append]; simp [Bool.and_assoc])
              obtain ⟨e0, e1, e2, e3, e4, e5⟩ := blk_cell6 HC.out.e
              have fe := blk_froz HC.out.e 5
              go_upto_region 21 with ((with_reducible refine gate_builtin (b := .append) (xs := #[.tmp 98, .tmp 100]) rfl ?_); at_builtin; refine Kd.R_append (Kd.raw 1) (w0 := w) w.heap.size rfl (.tmp 98) (.tmp 100) 44 37 (.slice none 0 0) 24 rfl Tryd.underlying44 info37 rfl (by decide) (by omega) (.slice Av j cv) rows [.slice A2 lx.length cz] [.slice A2 lx.length cz] (fun _ => True) (fun _ => False) rfl rfl ?aP (fun _ hk => hk.elim) ?aF ?aO ?aB ?aS ?aL ?_; (case aP => exact ⟨rfl, rfl, one1 A2 lx cz⟩); (case aB => exact HC.out.b); (case aF => exact (fun _ _ => trivial)); (case aO => exact HR2.out); (case aS => exact HC.out.b.size); (case aL => have := HRL.out; omega); intro vN wN hoN hbN hgN hatN; have HON := Aside.mk (OutU.snoc lx A2 cz HR1.out HR2.out HR3.out hgN HCZ.out HNZ.out hoN); have HCN := Aside.mk (HC.out.grown hgN hbN (raw_away HR2.out (by decide)) (raw_away HR2.out (by decide))); clear hoN hbN hgN hatN HC; obtain ⟨e0, e1, e2, e3, e4, e5⟩ := blk_cell6 HCN.out.e; have fe := blk_froz HCN.out.e 5; obtain ⟨AvN, cvN, evN, _⟩ := HON.out.slice; rw [HLN.out] at evN; subst evN)
              have HCP := Aside.mk (show CS w (wN.setCell ⟨E, 5, none⟩ (.slice AvN (j + 1) cvN)) g (rg :: v :: a :: b :: p :: st :: ups) E (ecC v a b p sv (.slice AvN (j + 1) cvN)) from HCN.out.put 5 (.slice AvN (j + 1) cvN))
              have HOP := Aside.mk (HON.out.set (by decide) (by decide) HCN.out.e 5 (.slice AvN (j + 1) cvN))
              rw [← HMP.out] at HOP
              clear e0 e1 e2 e3 e4 e5 fe HCN HON
              generalize wN.setCell ⟨E, 5, none⟩ (.slice AvN (j + 1) cvN) = w8 at *
              generalize (listOf x).isSome = ok at *
              generalize hgd : (G && (ups.take j).all fun u => (listOf u).isSome) = gd at *
              clear hgd
              cases gd
              all_goals
                go_wp2
                go_roundw
                case rel => exact ⟨j + 1, HLT.out, by first | rfl | simp, by rw [HGN.out]; rfl, _, HCP, HOP⟩
                case measure =>
                  have := HLT.out
                  have e9 : ((j : Int) + 1).toNat = j + 1 := by omega
                  simp only [intOf, e9, Int.toNat_natCast]
                  omega
            · have t1 : decide ((j : Int) < (ups.length : Int)) = false := decide_eq_false (by omega)
              have t2 : decide (j < ups.length) = false := decide_eq_false hlt
              rw [List.take_of_length_le (by omega)] at HU ⊢
              clear hj hlt
              have HRC := Aside.mk (show resC s = (G && ups.all fun u => (listOf u).isSome) from by
                rw [HQ.out, ← HG.out, ← HSK.out, ← HG3.out]
                simp [confG, gdC, HRR.out, Bool.and_assoc])
              have HE := HC.out.e
              obtain ⟨e0, e1, e2, e3, e4, e5⟩ := blk_cell6 HE
              obtain ⟨Av, cv, ev, _⟩ := HU.out.slice
              cases hy : (G && ups.all fun u => (listOf u).isSome) with
              | false =>
                rw [hy] at HRC
                have HN := HRC
                have HF := Aside.mk (fin46 (w0 := w) (R := w.heap.size) (.int .i64 0) (.int .i64 0) (.int .i64 0) (.int .i64 0) (.int .u64 0) (.slice none 0 0) HC.out.b (Nat.le_refl _) HC.out.r)
                obtain ⟨r0, r1, r2, r3, r4, r5⟩ := blk_cell6 HC.out.r
                have fr := blk_froz HC.out.r
                have fr0 := fr 0
                have fr1 := fr 1
                have fr2 := fr 2
                have fr3 := fr 3
                have fr4 := fr 4
                have fr5 := fr 5
                clear fr hy ev
                go_wp2
                refine bodyPost_ret (results_ct rfl _ _ w.heap.size 46 #[.int .i64 0, .int .i64 0, .int .i64 0, .int .i64 0, .int .u64 0, .slice none 0 0] (0, 0) _ rfl HF.out.1 Tryd.underlying46 rfl (by kernel_rfl)) rfl ?_
                exact confRes_no HN.out HF.out.2.1
              | true =>
                rw [hy] at HRC
                have HE1 := Aside.mk (show confV (wordsOf s) = ⟨varOf v, (numOf a).getD 0, (numOf b).getD 0, (numOf p).getD 0, sv, ups.map fun u => (listOf u).getD []⟩ from by rw [HWS.out, ← HST.out]; rfl)
                generalize (ups.map fun u => (listOf u).getD []) = up at *
                subst ev
                have HF := Aside.mk (fin46 (w0 := w) (R := w.heap.size) (.int .i64 (varOf v)) (.int .i64 ((numOf a).getD 0)) (.int .i64 ((numOf b).getD 0)) (.int .i64 ((numOf p).getD 0)) (.int .u64 (sv : Int)) (.slice Av up.length cv) HC.out.b (Nat.le_refl _) HC.out.r)
                have HFU := Aside.mk (HF.out.2.2 _ _ HU.out)
                obtain ⟨r0, r1, r2, r3, r4, r5⟩ := blk_cell6 HC.out.r
                have fr := blk_froz HC.out.r
                have fr0 := fr 0
                have fr1 := fr 1
                have fr2 := fr 2
                have fr3 := fr 3
                have fr4 := fr 4
                have fr5 := fr 5
                clear fr hy
                go_wp2
                refine bodyPost_ret (results_ct rfl _ _ w.heap.size 46 #[.int .i64 (varOf v), .int .i64 ((numOf a).getD 0), .int .i64 ((numOf b).getD 0), .int .i64 ((numOf p).getD 0), .int .u64 (sv : Int), .slice Av up.length cv] (0, 0) _ rfl HF.out.1 Tryd.underlying46 rfl (by kernel_rfl)) rfl ?_
                exact confRes_yes HRC.out HE1.out HFU.out HF.out.2.1
end Go.Proofs.YtabcdcnnamflfaaDoor.Wd
