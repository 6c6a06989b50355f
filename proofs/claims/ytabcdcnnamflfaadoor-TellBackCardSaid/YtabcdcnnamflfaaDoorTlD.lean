/- The program's reading of an event's words, one by one: walked. -/
import Derived.Test.YtabcdcnnamflfaaDoorTlC
set_option linter.unusedVariables false
set_option linter.unusedSimpArgs false
set_option maxRecDepth 100000
namespace Go.Proofs.YtabcdcnnamflfaaDoor.Wd
open Go.RowKit Go.Proofs.YtabcdcnnamflfaaDoorW.PrintWords Go.Proofs.YtabcdcnnamflfaaDoorW.PrintLast Go.Proofs.YtabcdcnnamflfaaDoorW.PrintMore
open QTe (EvOk In64 S76 k76 at_T76 rd_T76)
/-- Words that are still to be read, and whether one was bad; all below the state's own block. -/
structure PS (w : World) (B : Nat) (ws : List (List UInt8)) (bad : Bool) (A : Option Addr) (c : Nat) : Prop where
  bx : w.heap[B]? = some (.cells #[.slice A ws.length c, .bool bad] 115 (0, 0))
  cap : ws.length ≤ c
  tx : ws ≠ [] → ∃ g off cl, A = some ⟨g, off, none⟩ ∧ g < B ∧ w.heap[g]? = some (.cells cl 9 (0, 0)) ∧ ∀ (j : Nat) (h : j < ws.length), cl[off + j]? = some (.string (bs ws[j]))
theorem PS.lt {w : World} {B : Nat} {ws : List (List UInt8)} {bad : Bool} {A : Option Addr} {c : Nat} (h : PS w B ws bad A c) : B < w.heap.size := blk_lt h.bx
theorem PS.step {w w' : World} {B : Nat} {ws : List (List UInt8)} {bad : Bool} {A : Option Addr} {c : Nat} (h : PS w B ws bad A c) (b : Below w.heap.size w w') : PS w' B ws bad A c :=
  ⟨blk_below h.bx b, h.cap, fun hn => by
    obtain ⟨g, off, cl, e, hg, hb, hc⟩ := h.tx hn
    exact ⟨g, off, cl, e, hg, blk_below hb b, hc⟩⟩
/-- The state's own cells are set anew. -/
theorem PS.put {w w' : World} {B : Nat} {ws : List (List UInt8)} {bad bad' : Bool} {A : Option Addr} {c : Nat} (h : PS w B ws bad A c) (b : Below B w w') (hb : w'.heap[B]? = some (.cells #[.slice A ws.length c, .bool bad'] 115 (0, 0))) : PS w' B ws bad' A c :=
  ⟨hb, h.cap, fun hn => by
    obtain ⟨g, off, cl, e, hg, hb, hc⟩ := h.tx hn
    exact ⟨g, off, cl, e, hg, (b.block g hg).trans hb, hc⟩⟩
/-- All but block B is as it was. -/
structure Turned (B : Nat) (w w' : World) : Prop where
  b : Below B w w'
  k : KeepBut w w' B none
theorem Turned.refl (B : Nat) (w : World) : Turned B w w := ⟨Below.refl _ _, KeepBut.refl _ _ _⟩
theorem Turned.set {B : Nat} {w w' : World} (h : Turned B w w') (i : Nat) (u : Value) : Turned B w (w'.setCell ⟨B, i, none⟩ u) := ⟨h.b.setCell (Nat.le_refl _) _, h.k.set_ i u⟩
theorem Turned.step {B : Nat} {w w1 w2 : World} (h : Turned B w w1) (hl : B ≤ w1.heap.size) (b : Below w1.heap.size w1 w2) : Turned B w w2 := ⟨h.b.trans (b.mono hl), h.k.trans (KeepBut.of_below b B none) (.inl rfl)⟩
theorem Turned.trans {B : Nat} {w w1 w2 : World} (h : Turned B w w1) (k : Turned B w1 w2) : Turned B w w2 := ⟨h.b.trans k.b, h.k.trans k.k (.inl rfl)⟩
theorem blk_cell2 {w : World} {g : Nat} {c0 c1 : Value} {t : TypeId} (h : w.heap[g]? = some (.cells #[c0, c1] t (0, 0))) :
    w.cell? ⟨g, 0, none⟩ = some c0 ∧ w.cell? ⟨g, 1, none⟩ = some c1 ∧ w.frozen? ⟨g, 0, none⟩ = false ∧ w.frozen? ⟨g, 1, none⟩ = false := by
  refine ⟨?_, ?_, ?_, ?_⟩ <;> simp [World.cell?, World.frozen?, h]
set_option maxHeartbeats 2000000 in
theorem next_ (w : World) (B : Nat) (x : List UInt8) (r : List (List UInt8)) (bad : Bool) (A : Option Addr) (c : Nat) (h : PS w B (x :: r) bad A c) (hn : r.length ≤ 1000000) :
    Calls Tryd.prog 83 #[.pointer (some ⟨B, 0, none⟩)] w fun e w' => ∃ A' c', e = .returned (.string (bs x)) ∧ PS w' B r bad A' c' ∧ Turned B w w' := by
  have H := Aside.mk h
  obtain ⟨g, off, cl, rfl, hg, hb, hc⟩ := h.tx (by simp)
  obtain ⟨d0, d1, f0, f1⟩ := blk_cell2 h.bx
  have hx : w.cell? ⟨g, off, none⟩ = some (.string (bs x)) := by
    rw [blk_cell hb]; exact hc 0 (by simp)
  have HG := Aside.mk hg
  have HN := Aside.mk hn
  have HCP := Aside.mk h.cap
  have hl : ((x :: r).length : Int) = (r.length : Int) + 1 := by simp
  have q0 : (((r.length + 1 : Nat) : Int) == 0) = false := by rw [beq_eq_false_iff_ne]; omega
  have q2 : decide ((1 : Nat) ≤ c) = true := decide_eq_true (by have := h.cap; simp at this; omega)
  simp only [List.length_cons] at d0
  clear h hg hb hc hn hl
  by_cases hc1 : c = 1
  · subst hc1
    have hr : r = [] := by
      have := HCP.out
      simp only [List.length_cons] at this
      exact List.eq_nil_of_length_eq_zero (by omega)
    subst hr
    clear HN HCP q2
    simp only [List.length_nil] at d0 q0
    have HP := Aside.mk (show PS (w.setCell ⟨B, 0, none⟩ (.slice (some ⟨g, off, none⟩) 0 0)) B [] bad (some ⟨g, off, none⟩) 0 from
      ⟨blk_put H.out.bx 0 _ rfl, Nat.le_refl _, fun h => absurd rfl h⟩)
    have HB := Aside.mk (show Turned B w (w.setCell ⟨B, 0, none⟩ (.slice (some ⟨g, off, none⟩) 0 0)) from (Turned.refl B w).set 0 _)
    go_enter Tryd.func83, Tryd.ntmps83
    go_wp2
    go_ret
    exact ⟨_, _, rfl, HP.out, HB.out⟩
  · have HP := Aside.mk (show PS (w.setCell ⟨B, 0, none⟩ (.slice (some ⟨g, off + 1, none⟩) r.length (c - 1))) B r bad (some ⟨g, off + 1, none⟩) (c - 1) from
      ⟨blk_put H.out.bx 0 _ rfl, by have := HCP.out; simp only [List.length_cons] at this; omega, fun hn => by
        obtain ⟨g', off', cl', e, hg, hb, hc⟩ := H.out.tx (by simp)
        injection e with e
        injection e with e1 e2
        subst e1
        subst e2
        refine ⟨_, _, cl', rfl, hg, blk_far hb (by show g ≠ B; omega) _, fun j hj => ?_⟩
        have := hc (j + 1) (by simp; omega)
        rw [show off + 1 + j = off + (j + 1) by omega]
        exact this⟩)
    have HB := Aside.mk (show Turned B w (w.setCell ⟨B, 0, none⟩ (.slice (some ⟨g, off + 1, none⟩) r.length (c - 1))) from (Turned.refl B w).set 0 _)
    go_enter Tryd.func83, Tryd.ntmps83
    go_wp2
    go_ret
    exact ⟨_, _, rfl, HP.out, HB.out⟩
theorem PS.same {w : World} {B : Nat} {ws : List (List UInt8)} {bad : Bool} {A : Option Addr} {c : Nat} (h : PS w B ws bad A c) : PS (w.setCell ⟨B, 1, none⟩ (.bool bad)) B ws bad A c :=
  h.put ((Below.refl B w).setCell (Nat.le_refl _) _) (blk_put h.bx 1 _ rfl)
theorem add_off (g off j : Nat) : (⟨g, off, none⟩ : Addr).add j = ⟨g, off + j, none⟩ := by
  cases j <;> simp [Addr.add]
/-- Numbers in a row of their own type's cells, read. -/
def Nums (w : World) (A : Option Addr) (l : List Int) : Prop := l ≠ [] → ∃ g off cl, A = some ⟨g, off, none⟩ ∧ w.heap[g]? = some (.cells cl 3 (0, 0)) ∧ ∀ (j : Nat) (h : j < l.length), cl[off + j]? = some (.int .i64 l[j])
theorem Nums.below {w w' : World} {A : Option Addr} {l : List Int} (h : Nums w A l) (b : Below w.heap.size w w') : Nums w' A l := fun hn => by
  obtain ⟨g, off, cl, e, hb, hc⟩ := h hn
  exact ⟨g, off, cl, e, blk_below hb b, hc⟩
theorem Nums.grown {w w' : World} {A : Option Addr} {l : List Int} {row : Option Nat} (h : Nums w A l) (hg : w.grownBy w' row) (hne : ∀ g cl, w.heap[g]? = some (.cells cl 3 (0, 0)) → some g ≠ row) : Nums w' A l := fun hn => by
  obtain ⟨g, off, cl, e, hb, hc⟩ := h hn
  exact ⟨g, off, cl, e, blk_grown hb hg (hne g cl hb), hc⟩
theorem Nums.set {w : World} {A : Option Addr} {l : List Int} {B : Nat} {cs : Array Value} {t : TypeId} (h : Nums w A l) (hb : w.heap[B]? = some (.cells cs t (0, 0))) (ht : t ≠ 3) (i : Nat) (u : Value) : Nums (w.setCell ⟨B, i, none⟩ u) A l := fun hn => by
  obtain ⟨g, off, cl, e, hg, hc⟩ := h hn
  exact ⟨g, off, cl, e, blk_far hg (fun e2 => blk_ne hg hb (fun e3 => ht e3.symm) e2) u, hc⟩
theorem Nums.c {w : World} {A : Option Addr} {l : List Int} (h : Nums w A l) (hl : l.length ≤ 1000000) : (Kd.int .i64).C w A l.length l :=
  ⟨rfl, by omega, fun h0 => by
    obtain ⟨g, off, cl, e, hg, hc⟩ := h (fun e => by rw [e] at h0; simp at h0)
    refine ⟨_, e, fun j p hp => ⟨[.int .i64 p], rfl, rfl, fun i u hu => ?_⟩⟩
    obtain ⟨rfl, rfl⟩ : i = 0 ∧ .int .i64 p = u := by cases i with
      | zero => simpa using hu
      | succ i => simp at hu
    obtain ⟨hj, rfl⟩ := List.getElem?_eq_some_iff.1 hp
    have h2 := blk_cell hg (off + j)
    rw [hc j hj] at h2
    show w.cell? (Addr.add ⟨g, off, none⟩ (j * 1 + 0)) = _
    rw [Nat.mul_one, Nat.add_zero, add_off]
    exact h2⟩
theorem nums_of_R {w : World} {base : Nat} {v : Value} {l : List Int} (h : Kd.R (Kd.int .i64) 3 w base (fun _ => True) v l) : ∃ A c, v = .slice A l.length c ∧ l.length ≤ c ∧ Nums w A l := by
  obtain ⟨A, c, hv, hc, _⟩ := Kd.R_reads h
  refine ⟨A, c, hv, hc, fun hn => ?_⟩
  obtain ⟨h1, ⟨h2, h3⟩ | ⟨g, cap, cur, hv2, hg, hb, hc, hm, hs, ht⟩⟩ := Kd.own_of_R h
  · exact absurd (List.eq_nil_of_length_eq_zero (by simpa using h3)) hn
  · rw [hv] at hv2
    injection hv2 with e1 e2 e3
    refine ⟨g, 0, cur, e1, hb, fun j hj => ?_⟩
    rw [Nat.mul_one] at ht
    have e := congrArg (fun l : List Value => l[j]?) ht
    simp only [List.getElem?_take, hj, if_true, encs, List.getElem?_map, List.getElem?_eq_getElem hj, Option.map_some] at e
    rw [Array.getElem?_toList] at e
    rw [Nat.zero_add]
    exact e
/-- Whatever is done from block B on, the library's variables lie as laid. -/
structure LF (B : Nat) (w : World) : Prop where mk :: (out : ∀ w', Below B w w' → LibW w')
theorem LF.step {B : Nat} {w w' : World} (h : LF B w) (b : Below B w w') : LF B w' := ⟨fun w2 b2 => h.out w2 (b.trans b2)⟩
theorem LF.now {B : Nat} {w : World} (h : LF B w) : LibW w := h.out w (Below.refl _ _)
set_option maxHeartbeats 2000000 in
theorem pnum_ (w : World) (B : Nat) (n : Int) (hn : In64 n) (r : List (List UInt8)) (A : Option Addr) (c : Nat) (h : PS w B (Lib.itoa n :: r) false A c) (hr : r.length ≤ 1000000) (hw : LF B w) :
    Calls Tryd.prog 81 #[.pointer (some ⟨B, 0, none⟩)] w fun e w' => ∃ A' c', e = .returned (.int .i64 n) ∧ PS w' B r false A' c' ∧ Turned B w w' := by
  have H1 := Aside.mk (next_ w B (Lib.itoa n) r false A c h hr)
  have HL := Aside.mk hw
  have H2 := Aside.mk (fun w' hl => num_w (bs (Lib.itoa n)) (by rw [bs_size]; have := itoa_len n hn.1 hn.2; omega) w' hl)
  rw [bs_data, numOf_itoa n hn.1 hn.2] at H2
  clear h hr hw
  go_enter Tryd.func81, Tryd.ntmps81
  go_wp2_with (go_at_call 83; refine H1.out.mono ?_)
  rintro e w1 ⟨A1, c1, rfl, hp, hb⟩
  have HP1 := Aside.mk hp
  have HB1 := Aside.mk hb
  clear hp hb
  go_wp2_with (go_at_call 18; refine (H2.out _ (HL.out.out _ HB1.out.b)).mono ?_)
  rintro e w2 ⟨rfl, hb⟩
  have HP2 := Aside.mk (HP1.out.step hb)
  have HB2 := Aside.mk (HB1.out.step (Nat.le_of_lt HP1.out.lt) hb)
  clear hb
  obtain ⟨d0, d1, f0, f1⟩ := blk_cell2 HP2.out.bx
  go_wp2
  go_ret
  exact ⟨_, _, rfl, HP2.out.same, HB2.out.set 1 _⟩
set_option maxHeartbeats 2000000 in
theorem ppos_ (w : World) (B : Nat) (m : Nat) (hm : m < 18446744073709551616) (r : List (List UInt8)) (A : Option Addr) (c : Nat) (h : PS w B (Lib.decDigits m :: r) false A c) (hr : r.length ≤ 1000000) (hw : LF B w) :
    Calls Tryd.prog 86 #[.pointer (some ⟨B, 0, none⟩)] w fun e w' => ∃ A' c', e = .returned (.int .u64 (m : Int)) ∧ PS w' B r false A' c' ∧ Turned B w w' := by
  have H1 := Aside.mk (next_ w B (Lib.decDigits m) r false A c h hr)
  have HL := Aside.mk hw
  have H2 := Aside.mk (fun w' hl => big_w (bs (Lib.decDigits m)) (by rw [bs_size]; have := dec_len m hm; omega) w' hl)
  rw [bs_data, bigOf_dec m hm] at H2
  clear h hr hw
  go_enter Tryd.func86, Tryd.ntmps86
  go_wp2_with (go_at_call 83; refine H1.out.mono ?_)
  rintro e w1 ⟨A1, c1, rfl, hp, hb⟩
  have HP1 := Aside.mk hp
  have HB1 := Aside.mk hb
  clear hp hb
  go_wp2_with (go_at_call 19; refine (H2.out _ (HL.out.out _ HB1.out.b)).mono ?_)
  rintro e w2 ⟨rfl, hb⟩
  have HP2 := Aside.mk (HP1.out.step hb)
  have HB2 := Aside.mk (HB1.out.step (Nat.le_of_lt HP1.out.lt) hb)
  clear hb
  obtain ⟨d0, d1, f0, f1⟩ := blk_cell2 HP2.out.bx
  go_wp2
  go_ret
  exact ⟨_, _, rfl, HP2.out.same, HB2.out.set 1 _⟩
set_option maxHeartbeats 2000000 in
theorem plist_ (w : World) (B : Nat) (l : List Int) (hl : (∀ n ∈ l, In64 n) ∧ l.length ≤ 1000) (r : List (List UInt8)) (A : Option Addr) (c : Nat) (h : PS w B (listTxt l :: r) false A c) (hr : r.length ≤ 1000000) (hw : LF B w) :
    Calls Tryd.prog 85 #[.pointer (some ⟨B, 0, none⟩)] w fun e w' => ∃ A' c' A2 c2, e = .returned (.slice A2 l.length c2) ∧ l.length ≤ c2 ∧ Nums w' A2 l ∧ PS w' B r false A' c' ∧ Turned B w w' := by
  have H1 := Aside.mk (next_ w B (listTxt l) r false A c h hr)
  have HL := Aside.mk hw
  have HOK := Aside.mk hl
  have H2 := Aside.mk (fun w' hl' => list_w (bs (listTxt l)) (by rw [bs_size]; have := QTe.listTxt_len ⟨hl.1, show l.length ≤ 100000 by have := hl.2; omega⟩; have := hl.2; omega) w' hl')
  rw [bs_data] at H2
  clear h hr hw hl
  go_enter Tryd.func85, Tryd.ntmps85
  go_wp2_with (go_at_call 83; refine H1.out.mono ?_)
  rintro e w1 ⟨A1, c1, rfl, hp, hb⟩
  have HP1 := Aside.mk hp
  have HB1 := Aside.mk hb
  clear hp hb
  go_wp2_with (go_at_call 20; refine (H2.out _ (HL.out.out _ HB1.out.b)).mono ?_)
  rintro e w2 ⟨hlr, hb⟩
  have HP2 := Aside.mk (HP1.out.step hb)
  have HB2 := Aside.mk (HB1.out.step (Nat.le_of_lt HP1.out.lt) hb)
  unfold ListRes at hlr
  rw [listOf_txt l HOK.out.1] at hlr
  rcases hlr with ⟨h, _⟩ | ⟨l2, v, h, _, hO, rfl⟩
  · cases h
  injection h with h
  subst h
  obtain ⟨A2, c2, rfl, h21, h22⟩ := nums_of_R hO
  have HNU := Aside.mk h22
  have HCA := Aside.mk h21
  clear hb hO h21 h22
  obtain ⟨d0, d1, f0, f1⟩ := blk_cell2 HP2.out.bx
  go_wp2
  go_ret
  exact ⟨_, _, _, _, rfl, HCA.out, HNU.out.set HP2.out.bx (by decide) 1 _, HP2.out.same, HB2.out.set 1 _⟩
set_option maxHeartbeats 2000000 in
theorem pop_ (w : World) (B : Nat) (n : Int) (hn : In64 n) (r : List (List UInt8)) (A : Option Addr) (c : Nat) (h : PS w B (opX n :: r) false A c) (hr : r.length ≤ 1000000) (hw : LF B w) :
    Calls Tryd.prog 84 #[.pointer (some ⟨B, 0, none⟩)] w fun e w' => ∃ A' c', e = .returned (.int .i64 n) ∧ PS w' B r false A' c' ∧ Turned B w w' := by
  have H1 := Aside.mk (next_ w B (opX n) r false A c h hr)
  have HL := Aside.mk hw
  have HO := Aside.mk (evOp_ (opX n))
  clear h hr hw
  rcases opX_cases n with ⟨h1, h2, h3, h4, h5⟩ | ⟨h1, h2, h3, h4⟩
  · rw [h4] at HO
    have q1 : (n != 0) = true := by simp; omega
    clear h1 h2 h3 h4 h5
    go_enter Tryd.func84, Tryd.ntmps84
    go_wp2_with (go_at_call 83; refine H1.out.mono ?_)
    rintro e w1 ⟨A1, c1, rfl, hp, hb⟩
    have HP1 := Aside.mk hp
    have HB1 := Aside.mk hb
    clear hp hb
    go_wp2_with (go_at_call 58; refine (HO.out _).mono ?_)
    rintro e w2 ⟨rfl, hb⟩
    have HP2 := Aside.mk (HP1.out.step hb)
    have HB2 := Aside.mk (HB1.out.step (Nat.le_of_lt HP1.out.lt) hb)
    clear hb
    go_wp2
    go_ret
    exact ⟨_, _, rfl, HP2.out, HB2.out⟩
  · rw [h3] at HO
    have H2 := Aside.mk (fun w' hl => num_w (bs (Lib.itoa n)) (by rw [bs_size]; have := itoa_len n hn.1 hn.2; omega) w' hl)
    rw [bs_data, numOf_itoa n hn.1 hn.2, ← h2] at H2
    have HW := Aside.mk (evOpWord_ n)
    rw [h4] at HW
    clear h1 h2 h3 h4
    go_enter Tryd.func84, Tryd.ntmps84
    go_wp2_with (go_at_call 83; refine H1.out.mono ?_)
    rintro e w1 ⟨A1, c1, rfl, hp, hb⟩
    have HP1 := Aside.mk hp
    have HB1 := Aside.mk hb
    clear hp hb
    go_wp2_with (go_at_call 58; refine (HO.out _).mono ?_)
    rintro e w2 ⟨rfl, hb⟩
    have HP2 := Aside.mk (HP1.out.step hb)
    have HB2 := Aside.mk (HB1.out.step (Nat.le_of_lt HP1.out.lt) hb)
    clear hb
    go_wp2_with (go_at_call 18; refine (H2.out _ (HL.out.out _ HB2.out.b)).mono ?_)
    rintro e w3 ⟨rfl, hb⟩
    have HP3 := Aside.mk (HP2.out.step hb)
    have HB3 := Aside.mk (HB2.out.step (Nat.le_of_lt HP2.out.lt) hb)
    clear hb
    obtain ⟨d0, d1, f0, f1⟩ := blk_cell2 HP3.out.bx
    go_wp2_with (go_at_call 88; refine (HW.out _).mono ?_)
    rintro e w4 ⟨rfl, hb⟩
    have HP4 := Aside.mk (HP3.out.step hb)
    have HB4 := Aside.mk (HB3.out.step (Nat.le_of_lt HP3.out.lt) hb)
    clear hb d0 d1 f0 f1
    obtain ⟨d0, d1, f0, f1⟩ := blk_cell2 HP4.out.bx
    have q4 : (!(bs []).toList.isEmpty) = false := by rw [bs_toList]; rfl
    go_wp2
    go_ret
    exact ⟨_, _, rfl, HP4.out.same, HB4.out.set 1 _⟩
end Go.Proofs.YtabcdcnnamflfaaDoor.Wd
