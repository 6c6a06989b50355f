/- The law ScriptLines: walked. Asked: the library's variables lie as laid. -/
import Derived.Test.YtabcdcnnamflfaaDoorScF
set_option linter.unusedVariables false
set_option linter.unusedSimpArgs false
set_option maxRecDepth 100000
namespace Go.Proofs.YtabcdcnnamflfaaDoor.Wd
open Go.RowKit Go.Proofs.YtabcdcnnamflfaaDoorW.PrintWords Go.Proofs.YtabcdcnnamflfaaDoorW.PrintLast Go.Proofs.YtabcdcnnamflfaaDoorW.PrintMore
theorem tail_len (b : Nat) : ∀ (l : List (List UInt8)), (∀ x ∈ l, x.length ≤ b) → (Lib.joinTail [32] l).length ≤ (b + 1) * l.length
  | [], _ => by simp [Lib.joinTail]
  | x :: r, h => by
    have h1 := h x (by simp)
    have h2 := tail_len b r (fun y hy => h y (by simp [hy]))
    rw [joinTail_cons]
    simp only [List.length_append, List.length_cons, List.length_nil, Nat.mul_add, Nat.mul_one]
    omega
theorem confT_len (c : Cf) (h : CfOk c) (hs : QSc.Sm c.up) : (confT c).length ≤ 65536 := by
  unfold confT
  split
  · simp
  · have l1 := itoa_len c.width h.w.1 h.w.2
    have l2 := itoa_len c.cap h.k.1 h.k.2
    have l3 := itoa_len c.prod h.p.1 h.p.2
    have l4 := QSc.varT_len c.variant
    have l5 := dec_len c.start h.s
    have h1 := tail_len 1000 ([varT c.variant, Lib.itoa c.width, Lib.itoa c.cap, Lib.itoa c.prod, Lib.decDigits c.start] ++ c.up.map listTxt) (fun x hx => by
      rw [List.mem_append] at hx
      rcases hx with hx | hx
      · simp only [List.mem_cons, List.not_mem_nil, or_false] at hx
        rcases hx with rfl | rfl | rfl | rfl | rfl <;> omega
      · obtain ⟨l, hl, rfl⟩ := List.mem_map.1 hx
        have := QSc.lt_len ⟨h.u l hl, show l.length ≤ 100000 by have := hs.2 l hl; omega⟩
        have := hs.2 l hl
        omega)
    have h2 := hs.1
    have h3 : confW c = ringT :: ([varT c.variant, Lib.itoa c.width, Lib.itoa c.cap, Lib.itoa c.prod, Lib.decDigits c.start] ++ c.up.map listTxt) := rfl
    rw [h3, QSc.join2, List.length_append, QSc.lring]
    simp only [List.length_append, List.length_map, List.length_cons, List.length_nil] at h1
    omega
theorem actT_len (a : Ac) (h : AcOk a) (hs : a.data.length ≤ 100) (m : Int) (hm : In8 m) : (actT a m).length ≤ 65536 := by
  unfold actT
  split
  · have l1 := itoa_len a.thread h.t.1 h.t.2
    have l2 := itoa_len a.n h.n.1 h.n.2
    have l3 := itoa_len m hm.1 hm.2
    have l4 := QSc.opT_len a.op
    have l6 := QSc.lt_len ⟨h.d, show a.data.length ≤ 100000 by omega⟩
    have key : ∀ (x : List UInt8) (r : List (List UInt8)), x.length ≤ 4000 → r.length ≤ 2 → (∀ y ∈ r, y.length ≤ 4000) → (Lib.join (x :: r) [32]).length ≤ 65536 := by
      intro x r h1 h2 h3
      have := tail_len 4000 r h3
      rw [QSc.join2, List.length_append]
      have : (4000 + 1) * r.length ≤ 4001 * 2 := Nat.mul_le_mul_left _ h2
      omega
    have ls : stepT.length = 4 := rfl
    unfold actW
    split
    · exact key _ _ (by omega) (by simp) (by intro y hy; simp only [List.mem_cons, List.not_mem_nil, or_false] at hy; rcases hy with rfl | rfl <;> omega)
    split
    · exact key _ _ (by omega) (by simp) (by intro y hy; simp only [List.mem_cons, List.not_mem_nil, or_false] at hy; rcases hy with rfl | rfl <;> omega)
    split
    · exact key _ _ (by omega) (by simp) (by intro y hy; simp only [List.mem_cons, List.not_mem_nil, or_false] at hy; rcases hy with rfl | rfl <;> omega)
    · exact key _ _ (by omega) (by simp) (by intro y hy; simp only [List.mem_cons, List.not_mem_nil, or_false] at hy; rcases hy with rfl; omega)
  · simp
theorem resC_no {s : List UInt8} (h : resC s = false) : valC s = ⟨0, 0, 0, 0, 0, []⟩ := by
  unfold valC
  rw [if_neg (by rw [h]; decide)]
theorem confT_nil (c : Cf) : (bs (confT c)).toList.isEmpty = !decide (varT c.variant ≠ []) := by
  rw [bs_toList]
  by_cases h : varT c.variant = []
  · have : confT c = [] := by unfold confT; rw [if_pos h]
    rw [this, decide_eq_false (by simpa using h)]; rfl
  · have := (conf_words h).2.2
    rw [decide_eq_true h]
    cases hc : confT c with
    | nil => exact absurd hc this
    | cons x r => rfl
theorem sstr_ne (a : List UInt8) : ((bs a).toList != (bs a).toList) = false := by rw [bne, beq_self_eq_true]; rfl
theorem actC_one (a : Ac) (W : World) (g : Nat) (A : Option Addr) (k : Nat) (h : W.heap[g]? = some (.cells #[.int .i64 a.thread, .int .i64 a.op, .int .i64 a.n, .slice A a.data.length k] 50 (0, 0))) (h1 : Kd.C (Kd.int .i64) W A a.data.length a.data) (hk : a.data.length ≤ k) : ActC W (some ⟨g, 0, none⟩) [a] := by
  intro j hj
  obtain rfl : j = 0 := by simp at hj; omega
  obtain ⟨c0, c1, c2, c3, _⟩ := blk_cell4 h
  exact ⟨⟨g, 0, none⟩, A, k, rfl, c0, c1, c2, c3, hk, h1⟩
theorem acts_two (a : Ac) (A14 : Option Addr) (k14 : Nat) (B : Option Addr) (D : Nat) (w : World) (h1 : Kd.C (Kd.int .i64) w A14 a.data.length a.data) (hk : a.data.length ≤ k14) (h2 : Kd.C (Kd.int .i64) w B a.data.length a.data) (hD : a.data.length ≤ D) (hd : a.data.length ≤ 100) : Calls Tryd.prog 35 #[.slice (some ⟨w.heap.size, 0, none⟩) 1 1, .slice (some ⟨w.heap.size + 1, 0, none⟩) 1 1] ((w.alloc (.cells #[.int .i64 a.thread, .int .i64 a.op, .int .i64 a.n, .slice A14 a.data.length k14] 50)).alloc (.cells #[.int .i64 a.thread, .int .i64 a.op, .int .i64 a.n, .slice B a.data.length D] 50)) fun e w' => e = .returned (.bool true) ∧ Below w.heap.size w w' := by
  have b1 := below_alloc (Below.refl w.heap.size w) (.cells #[.int .i64 a.thread, .int .i64 a.op, .int .i64 a.n, .slice A14 a.data.length k14] 50)
  have b2 := below_alloc b1 (.cells #[.int .i64 a.thread, .int .i64 a.op, .int .i64 a.n, .slice B a.data.length D] 50)
  have g1 := blk_below (heap_alloc_new w (.cells #[.int .i64 a.thread, .int .i64 a.op, .int .i64 a.n, .slice A14 a.data.length k14] 50)) (below_alloc (Below.refl _ (w.alloc (.cells #[.int .i64 a.thread, .int .i64 a.op, .int .i64 a.n, .slice A14 a.data.length k14] 50))) (.cells #[.int .i64 a.thread, .int .i64 a.op, .int .i64 a.n, .slice B a.data.length D] 50))
  have g2 := heap_alloc_new (w.alloc (.cells #[.int .i64 a.thread, .int .i64 a.op, .int .i64 a.n, .slice A14 a.data.length k14] 50)) (.cells #[.int .i64 a.thread, .int .i64 a.op, .int .i64 a.n, .slice B a.data.length D] 50)
  rw [World.size_alloc] at g2
  refine (acts_ _ _ _ 1 1 [a] (actC_one a _ _ A14 k14 g1 (Kd.C_below h1 b2) hk) (actC_one a _ _ B D g2 (Kd.C_below h2 b2) hD) (by simp) (by simpa using hd)).mono ?_
  rintro e w' ⟨rfl, hb⟩
  exact ⟨rfl, b2.trans (hb.mono b2.size)⟩
theorem confback_ (s : List UInt8) (hr : resC s = true) (A : Option Addr) (c : Nat) (w : World) (h : Kd.C (Kd.slice 3 (Kd.int .i64)) w A (valC s).up.length (valC s).up) (hc : (valC s).up.length ≤ c) (hs : s.length ≤ 3000) : Calls Tryd.prog 31 #[.agg #[.int .i64 (valC s).variant, .int .i64 (valC s).width, .int .i64 (valC s).cap, .int .i64 (valC s).prod, .int .u64 ((valC s).start : Nat), .slice A (valC s).up.length c]] w fun e w' => e = .returned (.string (bs s)) ∧ Below w.heap.size w w' := by
  obtain ⟨o1, o2, o3, o4⟩ := valC_ok s
  have hf := QSc.conf_l2 (valC s) o1 o2 ⟨by omega, fun l hl => by have := o4 l hl; omega⟩
  rw [conf_read_line hr] at hf
  exact QSc.sakiaref36_Conf.calls 5000 _ _ _ _ _ A c _ _ w h hc hf
theorem actback_ (s : List UInt8) (hr : resA s = true) (A : Option Addr) (c : Nat) (w : World) (h : Kd.C (Kd.int .i64) w A (valA s).data.length (valA s).data) (hc : (valA s).data.length ≤ c) (hs : s.length ≤ 3000) : Calls Tryd.prog 32 #[.agg #[.int .i64 (valA s).thread, .int .i64 (valA s).op, .int .i64 (valA s).n, .slice A (valA s).data.length c], .int .i64 (cntA s)] w fun e w' => e = .returned (.string (bs s)) ∧ Below w.heap.size w w' := by
  obtain ⟨o1, o2, o3, o4⟩ := valA_ok s
  have hf := QSc.act_l (valA s) o1 (by omega) (cntA s) ⟨by omega, by omega⟩
  rw [act_read_line hr] at hf
  exact QSc.sakiaref36_Act.calls _ _ _ A c _ _ _ w h hc hf
theorem conf_s (s : List UInt8) (hs : s.length ≤ 3000) (w : World) (hw : LibW w) : Calls Tryd.prog 29 #[.string (bs s)] w fun e w' => ∃ A c, e = .returned (.tuple #[.agg #[.int .i64 (valC s).variant, .int .i64 (valC s).width, .int .i64 (valC s).cap, .int .i64 (valC s).prod, .int .u64 ((valC s).start : Nat), .slice A (valC s).up.length c], .bool (resC s)]) ∧ (Kd.C (Kd.slice 3 (Kd.int .i64)) w' A (valC s).up.length (valC s).up ∧ (valC s).up.length ≤ c) ∧ Below w.heap.size w w' := by
  refine (conf_ s (by omega) w hw).mono ?_
  rintro e w' ⟨v, rfl, hO, hb⟩
  obtain ⟨A, c, rfl, h1, h2⟩ := hO.reads (fun l hl => by have := (valC_ok s).2.2.2 l hl; omega)
  exact ⟨A, c, rfl, ⟨h2, h1⟩, hb⟩
theorem act_s (s : List UInt8) (hs : s.length ≤ 3000) (w : World) (hw : LibW w) : Calls Tryd.prog 30 #[.string (bs s)] w fun e w' => ∃ A c, e = .returned (.tuple #[.agg #[.int .i64 (valA s).thread, .int .i64 (valA s).op, .int .i64 (valA s).n, .slice A (valA s).data.length c], .int .i64 (cntA s), .bool (resA s)]) ∧ (Kd.C (Kd.int .i64) w' A (valA s).data.length (valA s).data ∧ (valA s).data.length ≤ c) ∧ Below w.heap.size w w' := by
  refine (act_ s (by omega) w hw).mono ?_
  rintro e w' ⟨A, c, rfl, h1, h2, hb⟩
  exact ⟨A, c, rfl, ⟨h2.c (by have := (valA_ok s).2.1; omega), h1⟩, hb⟩
theorem conf_c (c : Cf) (h : CfOk c) (hs : QSc.Sm c.up) (hn : varT c.variant ≠ []) (w : World) (hw : LibW w) : Calls Tryd.prog 29 #[.string (bs (confT c))] w fun e w' => ∃ A k, e = .returned (.tuple #[.agg #[.int .i64 c.variant, .int .i64 c.width, .int .i64 c.cap, .int .i64 c.prod, .int .u64 (c.start : Int), .slice A c.up.length k], .bool true]) ∧ (Kd.C (Kd.slice 3 (Kd.int .i64)) w' A c.up.length c.up ∧ c.up.length ≤ k) ∧ Below w.heap.size w w' := by
  refine (conf_ (confT c) (confT_len c h hs) w hw).mono ?_
  rintro e w' ⟨v, he, hO, hb⟩
  have h3 := conf_shown h
  have h4 := h3.2 hn
  have h5 := h3.1
  rw [decide_eq_true hn] at h5
  rw [h4] at he hO
  rw [h5] at he
  obtain ⟨A, k, rfl, h1, h2⟩ := hO.reads (fun l hl => by have := hs.2 l hl; omega)
  exact ⟨A, k, he, ⟨h2, h1⟩, hb⟩
theorem conf_n (c : Cf) (h : CfOk c) (hs : QSc.Sm c.up) (hn : varT c.variant = []) (w : World) (hw : LibW w) : Calls Tryd.prog 29 #[.string (bs (confT c))] w fun e w' => ∃ A k, e = .returned (.tuple #[.agg #[.int .i64 0, .int .i64 0, .int .i64 0, .int .i64 0, .int .u64 0, .slice A 0 k], .bool false]) ∧ Below w.heap.size w w' := by
  refine (conf_ (confT c) (confT_len c h hs) w hw).mono ?_
  rintro e w' ⟨v, he, hO, hb⟩
  have h5 := (conf_shown h).1
  rw [decide_eq_false (by simpa using hn)] at h5
  rw [h5, resC_no h5] at he
  rw [resC_no h5] at hO
  obtain ⟨A, k, rfl, _⟩ := hO.slice
  exact ⟨A, k, he, hb⟩
theorem act_c (a : Ac) (h : AcOk a) (hs : a.data.length ≤ 100) (hn : cleanA a = true) (m : Int) (hm : m = if a.op = 0 then 7 else 1) (w : World) (hw : LibW w) : Calls Tryd.prog 30 #[.string (bs (actT a 7))] w fun e w' => ∃ A k, e = .returned (.tuple #[.agg #[.int .i64 a.thread, .int .i64 a.op, .int .i64 a.n, .slice A a.data.length k], .int .i64 m, .bool true]) ∧ (Kd.C (Kd.int .i64) w' A a.data.length a.data ∧ a.data.length ≤ k) ∧ Below w.heap.size w w' := by
  refine (act_ (actT a 7) (actT_len a h hs 7 (by decide)) w hw).mono ?_
  rintro e w' ⟨A, c, he, hc, hO, hb⟩
  have h3 := act_shown h 7 (by decide) (by decide)
  obtain ⟨h4, h6⟩ := h3.2 hn
  have h5 := h3.1
  rw [hn] at h5
  rw [h4, h5, h6, ← hm] at he
  rw [h4] at hO hc
  exact ⟨A, c, he, ⟨hO.c (by omega), hc⟩, hb⟩
theorem act_n (a : Ac) (h : AcOk a) (hs : a.data.length ≤ 100) (hn : cleanA a = false) (w : World) (hw : LibW w) : Calls Tryd.prog 30 #[.string (bs (actT a 7))] w fun e w' => ∃ A k, e = .returned (.tuple #[.agg #[.int .i64 0, .int .i64 0, .int .i64 0, .slice A 0 k], .int .i64 0, .bool false]) ∧ Below w.heap.size w w' := by
  refine (act_ (actT a 7) (actT_len a h hs 7 (by decide)) w hw).mono ?_
  rintro e w' ⟨A, c, he, hc, hO, hb⟩
  have h5 := (act_shown h 7 (by decide) (by decide)).1
  rw [hn] at h5
  rw [h5, (resA_no h5).1, (resA_no h5).2] at he
  exact ⟨A, c, he, hb⟩
set_option maxHeartbeats 8000000 in
theorem walkScriptLines (w : World) (s : List UInt8) (A : Option Addr) (C : Nat) (c : Cf) (B : Option Addr) (D : Nat) (a : Ac) (hA : Kd.C (Kd.slice 3 (Kd.int .i64)) w A c.up.length c.up) (hC : c.up.length ≤ C) (hc : CfOk c) (hv : In8 c.variant) (hB : Kd.C (Kd.int .i64) w B a.data.length a.data) (hD : a.data.length ≤ D) (ha : AcOk a) (hw : LibW w) :
    Calls Tryd.prog 6 #[.string (bs s), .agg #[.int .i64 c.variant, .int .i64 c.width, .int .i64 c.cap, .int .i64 c.prod, .int .u64 (c.start : Int), .slice A c.up.length C], .agg #[.int .i64 a.thread, .int .i64 a.op, .int .i64 a.n, .slice B a.data.length D]] w fun e w' => e = .returned (.bool true) ∧ Below w.heap.size w w' := by
  have HA := Aside.mk (And.intro hA hC)
  have HBD := Aside.mk (And.intro hB hD)
  have HC := Aside.mk (And.intro hc hv)
  have HAC := Aside.mk ha
  have HW := Aside.mk hw
  obtain ⟨b, hlo, hsm⟩ := QSc.long9 c.up
  have HLO := Aside.mk hlo
  have HSM := Aside.mk hsm
  have hb1 := below_alloc (Below.refl w.heap.size w) (.cells #[.int .i64 c.variant, .int .i64 c.width, .int .i64 c.cap, .int .i64 c.prod, .int .u64 (c.start : Int), .slice A c.up.length C] 46)
  have H4 := Aside.mk (blk_below (heap_alloc_new w (.cells #[.int .i64 c.variant, .int .i64 c.width, .int .i64 c.cap, .int .i64 c.prod, .int .u64 (c.start : Int), .slice A c.up.length C] 46)) (below_alloc (Below.refl _ (w.alloc (.cells #[.int .i64 c.variant, .int .i64 c.width, .int .i64 c.cap, .int .i64 c.prod, .int .u64 (c.start : Int), .slice A c.up.length C] 46))) (.cells #[.int .i64 a.thread, .int .i64 a.op, .int .i64 a.n, .slice B a.data.length D] 50)))
  have h5 : ((w.alloc (.cells #[.int .i64 c.variant, .int .i64 c.width, .int .i64 c.cap, .int .i64 c.prod, .int .u64 (c.start : Int), .slice A c.up.length C] 46)).alloc (.cells #[.int .i64 a.thread, .int .i64 a.op, .int .i64 a.n, .slice B a.data.length D] 50)).heap[w.heap.size + 1]? = some (.cells #[.int .i64 a.thread, .int .i64 a.op, .int .i64 a.n, .slice B a.data.length D] 50 (0, 0)) := by
    have h := heap_alloc_new (w.alloc (.cells #[.int .i64 c.variant, .int .i64 c.width, .int .i64 c.cap, .int .i64 c.prod, .int .u64 (c.start : Int), .slice A c.up.length C] 46)) (.cells #[.int .i64 a.thread, .int .i64 a.op, .int .i64 a.n, .slice B a.data.length D] 50)
    rw [World.size_alloc] at h
    exact h
  have H5 := Aside.mk h5
  clear h5
  have HB := Aside.mk (below_alloc hb1 (.cells #[.int .i64 a.thread, .int .i64 a.op, .int .i64 a.n, .slice B a.data.length D] 50))
  clear hA hC hc hv hB hD ha hw hlo hsm hb1
  go_enter Tryd.func6, Tryd.ntmps6
  go_upto_region 1 with (fail)
  generalize (w.alloc (.cells #[.int .i64 c.variant, .int .i64 c.width, .int .i64 c.cap, .int .i64 c.prod, .int .u64 (c.start : Int), .slice A c.up.length C] 46)).alloc (.cells #[.int .i64 a.thread, .int .i64 a.op, .int .i64 a.n, .slice B a.data.length D] 50) = w2 at *
  generalize w.heap.size + 1 = g5 at *
  obtain ⟨e0, e1, e2, e3, e4, e5⟩ := blk_cell6 H4.out
  obtain ⟨f0, f1, f2, f3, f4, f5, f6, f7⟩ := blk_cell4 H5.out
  by_cases hs : 3000 < s.length
  · have s1 : decide ((3000 : Int) < ((bs s).size : Int)) = true := decide_eq_true (by rw [bs_size]; omega)
    have s2 : decide (3000 < (bs s).size) = true := decide_eq_true (by rw [bs_size]; omega)
    clear hs
    go_wp2_with (first | (go_at_call 27; refine (QSc.sakialaw09_Long.calls 1000 A C c.up _ _ (Kd.C_below HA.out.1 HB.out) HA.out.2 HLO.out).mono ?_; rintro e w8 ⟨rfl, hd⟩; have hb := dbelow hd; clear hd; replace HB := Aside.mk (HB.out.trans (hb.mono HB.out.size)); replace H4 := Aside.mk (blk_below H4.out hb); replace H5 := Aside.mk (blk_below H5.out hb); clear hb e0 e1 e2 e3 e4 e5 f0 f1 f2 f3 f4 f5 f6 f7; obtain ⟨f0, f1, f2, f3, f4, f5, f6, f7⟩ := blk_cell4 H5.out) | (go_at_call 28; refine (slive_ _ (HW.out.below HB.out)).mono ?_; rintro e w9 ⟨rfl, hb⟩; replace HB := Aside.mk (HB.out.trans (hb.mono HB.out.size)); clear hb))
    go_ret
    exact ⟨rfl, HB.out⟩
  by_cases hd : 100 < a.data.length
  · have s1 : decide ((3000 : Int) < ((bs s).size : Int)) = false := decide_eq_false (by rw [bs_size]; omega)
    have s2 : decide (3000 < (bs s).size) = false := decide_eq_false (by rw [bs_size]; omega)
    have d1 : decide ((100 : Int) < (a.data.length : Int)) = true := decide_eq_true (by omega)
    have d2 : decide (100 < a.data.length) = true := decide_eq_true (by omega)
    clear hs hd
    cases b
    all_goals
      go_wp2_with (first | (go_at_call 27; refine (QSc.sakialaw09_Long.calls 1000 A C c.up _ _ (Kd.C_below HA.out.1 HB.out) HA.out.2 HLO.out).mono ?_; rintro e w8 ⟨rfl, hd⟩; have hb := dbelow hd; clear hd; replace HB := Aside.mk (HB.out.trans (hb.mono HB.out.size)); replace H4 := Aside.mk (blk_below H4.out hb); replace H5 := Aside.mk (blk_below H5.out hb); clear hb e0 e1 e2 e3 e4 e5 f0 f1 f2 f3 f4 f5 f6 f7; obtain ⟨f0, f1, f2, f3, f4, f5, f6, f7⟩ := blk_cell4 H5.out) | (go_at_call 28; refine (slive_ _ (HW.out.below HB.out)).mono ?_; rintro e w9 ⟨rfl, hb⟩; replace HB := Aside.mk (HB.out.trans (hb.mono HB.out.size)); clear hb))
      go_ret
      exact ⟨rfl, HB.out⟩
  cases b with
  | true =>
    have s1 : decide ((3000 : Int) < ((bs s).size : Int)) = false := decide_eq_false (by rw [bs_size]; omega)
    have s2 : decide (3000 < (bs s).size) = false := decide_eq_false (by rw [bs_size]; omega)
    have d1 : decide ((100 : Int) < (a.data.length : Int)) = false := decide_eq_false (by omega)
    have d2 : decide (100 < a.data.length) = false := decide_eq_false (by omega)
    clear hs hd
    go_wp2_with (first | (go_at_call 27; refine (QSc.sakialaw09_Long.calls 1000 A C c.up _ _ (Kd.C_below HA.out.1 HB.out) HA.out.2 HLO.out).mono ?_; rintro e w8 ⟨rfl, hd⟩; have hb := dbelow hd; clear hd; replace HB := Aside.mk (HB.out.trans (hb.mono HB.out.size)); replace H4 := Aside.mk (blk_below H4.out hb); replace H5 := Aside.mk (blk_below H5.out hb); clear hb e0 e1 e2 e3 e4 e5 f0 f1 f2 f3 f4 f5 f6 f7; obtain ⟨f0, f1, f2, f3, f4, f5, f6, f7⟩ := blk_cell4 H5.out) | (go_at_call 28; refine (slive_ _ (HW.out.below HB.out)).mono ?_; rintro e w9 ⟨rfl, hb⟩; replace HB := Aside.mk (HB.out.trans (hb.mono HB.out.size)); clear hb))
    go_ret
    exact ⟨rfl, HB.out⟩
  | false =>
    have s1 : decide ((3000 : Int) < ((bs s).size : Int)) = false := decide_eq_false (by rw [bs_size]; omega)
    have s2 : decide (3000 < (bs s).size) = false := decide_eq_false (by rw [bs_size]; omega)
    have d1 : decide ((100 : Int) < (a.data.length : Int)) = false := decide_eq_false (by omega)
    have d2 : decide (100 < a.data.length) = false := decide_eq_false (by omega)
    have HS := Aside.mk (show s.length ≤ 65536 by omega)
    have HS3 := Aside.mk (show s.length ≤ 3000 by omega)
    have HD1 := Aside.mk (show a.data.length ≤ 100 by omega)
    replace HSM := Aside.mk (HSM.out rfl)
    clear hs hd
    go_wp2_with (go_at_call 27; refine (QSc.sakialaw09_Long.calls 1000 A C c.up _ _ (Kd.C_below HA.out.1 HB.out) HA.out.2 HLO.out).mono ?_; rintro e w8 ⟨rfl, hd⟩; have hb := dbelow hd; clear hd; replace HB := Aside.mk (HB.out.trans (hb.mono HB.out.size)); replace H4 := Aside.mk (blk_below H4.out hb); replace H5 := Aside.mk (blk_below H5.out hb); clear hb e0 e1 e2 e3 e4 e5 f0 f1 f2 f3 f4 f5 f6 f7; obtain ⟨f0, f1, f2, f3, f4, f5, f6, f7⟩ := blk_cell4 H5.out)
    refine (conf_s s HS3.out _ (HW.out.below HB.out)).mono ?_
    rintro r w3 ⟨A7, c7, rfl, hO, hb⟩
    have HO := Aside.mk hO
    clear hO
    replace H4 := Aside.mk (blk_below H4.out hb)
    replace H5 := Aside.mk (blk_below H5.out hb)
    replace HB := Aside.mk (HB.out.trans (hb.mono HB.out.size))
    clear hb
    clear f0 f1 f2 f3 f4 f5 f6 f7
    have hb := below_alloc (Below.refl w3.heap.size w3) (.cells #[.int .i64 (valC s).variant, .int .i64 (valC s).width, .int .i64 (valC s).cap, .int .i64 (valC s).prod, .int .u64 ((valC s).start : Int), .slice A7 (valC s).up.length c7] 46)
    have H7 := Aside.mk (heap_alloc_new w3 (.cells #[.int .i64 (valC s).variant, .int .i64 (valC s).width, .int .i64 (valC s).cap, .int .i64 (valC s).prod, .int .u64 ((valC s).start : Int), .slice A7 (valC s).up.length c7] 46))
    replace H4 := Aside.mk (blk_below H4.out hb)
    replace H5 := Aside.mk (blk_below H5.out hb)
    replace HB := Aside.mk (HB.out.trans (hb.mono HB.out.size))
    replace HO := Aside.mk (And.intro (Kd.C_below HO.out.1 hb) HO.out.2)
    clear hb
    go_upto_region 4 with (fail)
    generalize w3.alloc (.cells #[.int .i64 (valC s).variant, .int .i64 (valC s).width, .int .i64 (valC s).cap, .int .i64 (valC s).prod, .int .u64 ((valC s).start : Int), .slice A7 (valC s).up.length c7] 46) = w4 at *
    generalize w3.heap.size = g7 at *
    go_wp2_with fail
    refine (act_s s HS3.out _ (HW.out.below HB.out)).mono ?_
    rintro r w5 ⟨A9, c9, rfl, hN, hb⟩
    have HN := Aside.mk hN
    clear hN
    replace HO := Aside.mk (And.intro (Kd.C_below HO.out.1 hb) HO.out.2)
    replace H4 := Aside.mk (blk_below H4.out hb)
    replace H5 := Aside.mk (blk_below H5.out hb)
    replace H7 := Aside.mk (blk_below H7.out hb)
    replace HB := Aside.mk (HB.out.trans (hb.mono HB.out.size))
    clear hb
    have hb := below_alloc (Below.refl w5.heap.size w5) (.cells #[.int .i64 (valA s).thread, .int .i64 (valA s).op, .int .i64 (valA s).n, .slice A9 (valA s).data.length c9] 50)
    have H9 := Aside.mk (heap_alloc_new w5 (.cells #[.int .i64 (valA s).thread, .int .i64 (valA s).op, .int .i64 (valA s).n, .slice A9 (valA s).data.length c9] 50))
    replace H4 := Aside.mk (blk_below H4.out hb)
    replace H5 := Aside.mk (blk_below H5.out hb)
    replace H7 := Aside.mk (blk_below H7.out hb)
    replace HB := Aside.mk (HB.out.trans (hb.mono HB.out.size))
    replace HO := Aside.mk (And.intro (Kd.C_below HO.out.1 hb) HO.out.2)
    replace HN := Aside.mk (And.intro (Kd.C_below HN.out.1 hb) HN.out.2)
    clear hb
    go_upto_region 5 with (fail)
    generalize w5.alloc (.cells #[.int .i64 (valA s).thread, .int .i64 (valA s).op, .int .i64 (valA s).n, .slice A9 (valA s).data.length c9] 50) = w6 at *
    generalize w5.heap.size = g9 at *
    obtain ⟨p0, p1, p2, p3, p4, p5⟩ := blk_cell6 H7.out
    obtain ⟨q0, q1, q2, q3, q4, q5, q6, q7⟩ := blk_cell4 H9.out
    have nn := sstr_ne s
    cases hrc : resC s
    all_goals
      cases hra : resA s
    · have y1 : (valC s).variant = 0 := by rw [resC_no hrc]
      have y2 : (valC s).up.length = 0 := by rw [resC_no hrc]; rfl
      rw [y1] at p0
      rw [y2] at p5
      clear y1 y2
      have y3 : cntA s = 0 := (resA_no hra).2
      rw [y3]
      clear y3
      clear hrc hra
      go_upto_region 7 with (fail)
      obtain ⟨e0, e1, e2, e3, e4, e5⟩ := blk_cell6 H4.out
      go_wp2_with fail
      refine (QSc.sakiaref36_Conf.calls 1000 _ _ _ _ _ A C c.up _ _ (Kd.C_below HA.out.1 HB.out) HA.out.2 (QSc.conf_l c HC.out.1 HC.out.2 HSM.out)).mono ?_
      rintro e w10 ⟨rfl, hb⟩
      replace HB := Aside.mk (HB.out.trans (hb.mono HB.out.size)); replace H4 := Aside.mk (blk_below H4.out hb); replace H5 := Aside.mk (blk_below H5.out hb); clear hb
      clear e0 e1 e2 e3 e4 e5
      go_wp2_with fail
      by_cases hvn : varT c.variant = []
      · have n1 : (bs (confT c)).toList.isEmpty = true := by rw [confT_nil, decide_eq_false (by simpa using hvn)]; rfl
        refine (conf_n c HC.out.1 HSM.out hvn _ (HW.out.below HB.out)).mono ?_
        rintro r w11 ⟨A12, k12, rfl, hb⟩
        clear hvn
        replace HB := Aside.mk (HB.out.trans (hb.mono HB.out.size)); replace H4 := Aside.mk (blk_below H4.out hb); replace H5 := Aside.mk (blk_below H5.out hb); clear hb
        have H12 := Aside.mk (heap_alloc_new w11 (.cells #[.int .i64 0, .int .i64 0, .int .i64 0, .int .i64 0, .int .u64 0, .slice A12 0 k12] 46))
        have hb := below_alloc (Below.refl w11.heap.size w11) (.cells #[.int .i64 0, .int .i64 0, .int .i64 0, .int .i64 0, .int .u64 0, .slice A12 0 k12] 46)
        replace HB := Aside.mk (HB.out.trans (hb.mono HB.out.size)); replace H4 := Aside.mk (blk_below H4.out hb); replace H5 := Aside.mk (blk_below H5.out hb); clear hb
        go_upto_region 8 with (fail)
        generalize w11.alloc (.cells #[.int .i64 0, .int .i64 0, .int .i64 0, .int .i64 0, .int .u64 0, .slice A12 0 k12] 46) = w12 at *
        generalize w11.heap.size = g12 at *
        obtain ⟨f0, f1, f2, f3, f4, f5, f6, f7⟩ := blk_cell4 H5.out
        go_wp2_with fail
        refine (QSc.sakiaref36_Act.calls _ _ _ B D a.data 7 _ _ (Kd.C_below HBD.out.1 HB.out) HBD.out.2 (QSc.act_l a HAC.out (by have := HD1.out; omega) 7 (by decide))).mono ?_
        rintro e w13 ⟨rfl, hb⟩
        replace HB := Aside.mk (HB.out.trans (hb.mono HB.out.size)); replace H4 := Aside.mk (blk_below H4.out hb); replace H5 := Aside.mk (blk_below H5.out hb); replace H12 := Aside.mk (blk_below H12.out hb); clear hb
        clear f0 f1 f2 f3 f4 f5 f6 f7
        go_wp2_with fail
        cases hcl : cleanA a
        · have HCL := Aside.mk hcl
          refine (act_n a HAC.out HD1.out hcl _ (HW.out.below HB.out)).mono ?_
          rintro r w14 ⟨A14, k14, rfl, hb⟩
          clear hcl
          replace HB := Aside.mk (HB.out.trans (hb.mono HB.out.size)); replace H4 := Aside.mk (blk_below H4.out hb); replace H5 := Aside.mk (blk_below H5.out hb); replace H12 := Aside.mk (blk_below H12.out hb); clear hb
          have H14 := Aside.mk (heap_alloc_new w14 (.cells #[.int .i64 0, .int .i64 0, .int .i64 0, .slice A14 0 k14] 50))
          have hb := below_alloc (Below.refl w14.heap.size w14) (.cells #[.int .i64 0, .int .i64 0, .int .i64 0, .slice A14 0 k14] 50)
          replace HB := Aside.mk (HB.out.trans (hb.mono HB.out.size)); replace H4 := Aside.mk (blk_below H4.out hb); replace H5 := Aside.mk (blk_below H5.out hb); replace H12 := Aside.mk (blk_below H12.out hb); clear hb
          go_upto_region 9 with (fail)
          generalize w14.alloc (.cells #[.int .i64 0, .int .i64 0, .int .i64 0, .slice A14 0 k14] 50) = w15 at *
          generalize w14.heap.size = g14 at *
          obtain ⟨e0, e1, e2, e3, e4, e5⟩ := blk_cell6 H4.out
          obtain ⟨f0, f1, f2, f3, f4, f5, f6, f7⟩ := blk_cell4 H5.out
          obtain ⟨r0, r1, r2, r3, r4, r5⟩ := blk_cell6 H12.out
          go_wp2_with (first | (go_at_call 31; refine (QSc.sakiaref36_Conf.calls 1000 _ _ _ _ _ A C c.up _ _ (Kd.C_below HA.out.1 HB.out) HA.out.2 (QSc.conf_l c HC.out.1 HC.out.2 HSM.out)).mono ?_; rintro e w41 ⟨rfl, hb⟩; replace HB := Aside.mk (HB.out.trans (hb.mono HB.out.size)); replace H4 := Aside.mk (blk_below H4.out hb); replace H5 := Aside.mk (blk_below H5.out hb); replace H12 := Aside.mk (blk_below H12.out hb); replace H14 := Aside.mk (blk_below H14.out hb); clear hb; clear e0 e1 e2 e3 e4 e5 f0 f1 f2 f3 f4 f5 f6 f7 r0 r1 r2 r3 r4 r5; obtain ⟨e0, e1, e2, e3, e4, e5⟩ := blk_cell6 H4.out; obtain ⟨f0, f1, f2, f3, f4, f5, f6, f7⟩ := blk_cell4 H5.out; obtain ⟨r0, r1, r2, r3, r4, r5⟩ := blk_cell6 H12.out) | (go_at_call 34; refine (QSc.sakiaref36_Clean.calls _ _ _ B D a.data false _ (Kd.C_below HBD.out.1 HB.out) HBD.out.2 (by rw [QSc.clean_l, HCL.out])).mono ?_; rintro e w44 ⟨rfl, hb⟩; replace HB := Aside.mk (HB.out.trans (hb.mono HB.out.size)); replace H4 := Aside.mk (blk_below H4.out hb); replace H5 := Aside.mk (blk_below H5.out hb); replace H12 := Aside.mk (blk_below H12.out hb); replace H14 := Aside.mk (blk_below H14.out hb); clear hb; clear e0 e1 e2 e3 e4 e5 f0 f1 f2 f3 f4 f5 f6 f7 r0 r1 r2 r3 r4 r5; obtain ⟨e0, e1, e2, e3, e4, e5⟩ := blk_cell6 H4.out; obtain ⟨f0, f1, f2, f3, f4, f5, f6, f7⟩ := blk_cell4 H5.out; obtain ⟨r0, r1, r2, r3, r4, r5⟩ := blk_cell6 H12.out) | (go_at_call 28; refine (slive_ _ (HW.out.below HB.out)).mono ?_; rintro e w9 ⟨rfl, hb⟩; replace HB := Aside.mk (HB.out.trans (hb.mono HB.out.size)); clear hb))
          go_ret
          exact ⟨rfl, HB.out⟩
        · have HCL := Aside.mk hcl
          by_cases hop : a.op = 0
          · have m1 : (a.op == 0) = true := by rw [hop]; rfl
            have m2 : decide (a.op = 0) = true := decide_eq_true hop
            refine (act_c a HAC.out HD1.out hcl 7 (by rw [if_pos hop]) _ (HW.out.below HB.out)).mono ?_
            rintro r w14 ⟨A14, k14, rfl, hO, hb⟩
            have HO14 := Aside.mk hO
            clear hO hop hcl
            replace HB := Aside.mk (HB.out.trans (hb.mono HB.out.size)); replace H4 := Aside.mk (blk_below H4.out hb); replace H5 := Aside.mk (blk_below H5.out hb); replace H12 := Aside.mk (blk_below H12.out hb); clear hb
            have H14 := Aside.mk (heap_alloc_new w14 (.cells #[.int .i64 a.thread, .int .i64 a.op, .int .i64 a.n, .slice A14 a.data.length k14] 50))
            have hb := below_alloc (Below.refl w14.heap.size w14) (.cells #[.int .i64 a.thread, .int .i64 a.op, .int .i64 a.n, .slice A14 a.data.length k14] 50)
            replace HB := Aside.mk (HB.out.trans (hb.mono HB.out.size)); replace H4 := Aside.mk (blk_below H4.out hb); replace H5 := Aside.mk (blk_below H5.out hb); replace H12 := Aside.mk (blk_below H12.out hb); replace HO14 := Aside.mk (And.intro (Kd.C_below HO14.out.1 hb) HO14.out.2); clear hb
            go_upto_region 9 with (fail)
            generalize w14.alloc (.cells #[.int .i64 a.thread, .int .i64 a.op, .int .i64 a.n, .slice A14 a.data.length k14] 50) = w15 at *
            generalize w14.heap.size = g14 at *
            obtain ⟨e0, e1, e2, e3, e4, e5⟩ := blk_cell6 H4.out
            obtain ⟨f0, f1, f2, f3, f4, f5, f6, f7⟩ := blk_cell4 H5.out
            obtain ⟨r0, r1, r2, r3, r4, r5⟩ := blk_cell6 H12.out
            go_upto_region 16 with (first | (go_at_call 31; refine (QSc.sakiaref36_Conf.calls 1000 _ _ _ _ _ A C c.up _ _ (Kd.C_below HA.out.1 HB.out) HA.out.2 (QSc.conf_l c HC.out.1 HC.out.2 HSM.out)).mono ?_; rintro e w41 ⟨rfl, hb⟩; replace HB := Aside.mk (HB.out.trans (hb.mono HB.out.size)); replace H4 := Aside.mk (blk_below H4.out hb); replace H5 := Aside.mk (blk_below H5.out hb); replace H12 := Aside.mk (blk_below H12.out hb); replace H14 := Aside.mk (blk_below H14.out hb); replace HO14 := Aside.mk (And.intro (Kd.C_below HO14.out.1 hb) HO14.out.2); clear hb; clear e0 e1 e2 e3 e4 e5 f0 f1 f2 f3 f4 f5 f6 f7 r0 r1 r2 r3 r4 r5; obtain ⟨e0, e1, e2, e3, e4, e5⟩ := blk_cell6 H4.out; obtain ⟨f0, f1, f2, f3, f4, f5, f6, f7⟩ := blk_cell4 H5.out; obtain ⟨r0, r1, r2, r3, r4, r5⟩ := blk_cell6 H12.out) | (go_at_call 34; refine (QSc.sakiaref36_Clean.calls _ _ _ B D a.data true _ (Kd.C_below HBD.out.1 HB.out) HBD.out.2 (by rw [QSc.clean_l, HCL.out])).mono ?_; rintro e w44 ⟨rfl, hb⟩; replace HB := Aside.mk (HB.out.trans (hb.mono HB.out.size)); replace H4 := Aside.mk (blk_below H4.out hb); replace H5 := Aside.mk (blk_below H5.out hb); replace H12 := Aside.mk (blk_below H12.out hb); replace H14 := Aside.mk (blk_below H14.out hb); replace HO14 := Aside.mk (And.intro (Kd.C_below HO14.out.1 hb) HO14.out.2); clear hb; clear e0 e1 e2 e3 e4 e5 f0 f1 f2 f3 f4 f5 f6 f7 r0 r1 r2 r3 r4 r5; obtain ⟨e0, e1, e2, e3, e4, e5⟩ := blk_cell6 H4.out; obtain ⟨f0, f1, f2, f3, f4, f5, f6, f7⟩ := blk_cell4 H5.out; obtain ⟨r0, r1, r2, r3, r4, r5⟩ := blk_cell6 H12.out))
            obtain ⟨u0, u1, u2, u3, u4, u5, u6, u7⟩ := blk_cell4 H14.out
            have a0x := fun o => pw_cell_below (below_alloc (Below.refl _ _) o) f0
            have a1x := fun o => pw_cell_below (below_alloc (Below.refl _ _) o) f1
            have a2x := fun o => pw_cell_below (below_alloc (Below.refl _ _) o) f2
            have a3x := fun o => pw_cell_below (below_alloc (Below.refl _ _) o) f3
            have b0x := fun o => pw_cell_below (below_alloc (Below.refl _ _) o) u0
            have b1x := fun o => pw_cell_below (below_alloc (Below.refl _ _) o) u1
            have b2x := fun o => pw_cell_below (below_alloc (Below.refl _ _) o) u2
            have b3x := fun o => pw_cell_below (below_alloc (Below.refl _ _) o) u3
            clear e0 e1 e2 e3 e4 e5 f4 f5 f6 f7 r0 r1 r2 r3 r4 r5 u4 u5 u6 u7 n1 m1 m2
            go_wp2_with fail
            refine (acts_two a A14 k14 B D _ HO14.out.1 HO14.out.2 (Kd.C_below HBD.out.1 HB.out) HBD.out.2 HD1.out).mono ?_
            rintro e w45 ⟨rfl, hb⟩
            replace HB := Aside.mk (HB.out.trans (hb.mono HB.out.size))
            clear hb f0 f1 f2 f3 u0 u1 u2 u3 a0x a1x a2x a3x b0x b1x b2x b3x
            go_wp2_with (go_at_call 28; refine (slive_ _ (HW.out.below HB.out)).mono ?_; rintro e w9 ⟨rfl, hb⟩; replace HB := Aside.mk (HB.out.trans (hb.mono HB.out.size)); clear hb)
            go_ret
            exact ⟨rfl, HB.out⟩
          · have m1 : (a.op == 0) = false := by simpa using hop
            have m2 : decide (a.op = 0) = false := decide_eq_false hop
            refine (act_c a HAC.out HD1.out hcl 1 (by rw [if_neg hop]) _ (HW.out.below HB.out)).mono ?_
            rintro r w14 ⟨A14, k14, rfl, hO, hb⟩
            have HO14 := Aside.mk hO
            clear hO hop hcl
            replace HB := Aside.mk (HB.out.trans (hb.mono HB.out.size)); replace H4 := Aside.mk (blk_below H4.out hb); replace H5 := Aside.mk (blk_below H5.out hb); replace H12 := Aside.mk (blk_below H12.out hb); clear hb
            have H14 := Aside.mk (heap_alloc_new w14 (.cells #[.int .i64 a.thread, .int .i64 a.op, .int .i64 a.n, .slice A14 a.data.length k14] 50))
            have hb := below_alloc (Below.refl w14.heap.size w14) (.cells #[.int .i64 a.thread, .int .i64 a.op, .int .i64 a.n, .slice A14 a.data.length k14] 50)
            replace HB := Aside.mk (HB.out.trans (hb.mono HB.out.size)); replace H4 := Aside.mk (blk_below H4.out hb); replace H5 := Aside.mk (blk_below H5.out hb); replace H12 := Aside.mk (blk_below H12.out hb); replace HO14 := Aside.mk (And.intro (Kd.C_below HO14.out.1 hb) HO14.out.2); clear hb
            go_upto_region 9 with (fail)
            generalize w14.alloc (.cells #[.int .i64 a.thread, .int .i64 a.op, .int .i64 a.n, .slice A14 a.data.length k14] 50) = w15 at *
            generalize w14.heap.size = g14 at *
            obtain ⟨e0, e1, e2, e3, e4, e5⟩ := blk_cell6 H4.out
            obtain ⟨f0, f1, f2, f3, f4, f5, f6, f7⟩ := blk_cell4 H5.out
            obtain ⟨r0, r1, r2, r3, r4, r5⟩ := blk_cell6 H12.out
            go_upto_region 16 with (first | (go_at_call 31; refine (QSc.sakiaref36_Conf.calls 1000 _ _ _ _ _ A C c.up _ _ (Kd.C_below HA.out.1 HB.out) HA.out.2 (QSc.conf_l c HC.out.1 HC.out.2 HSM.out)).mono ?_; rintro e w41 ⟨rfl, hb⟩; replace HB := Aside.mk (HB.out.trans (hb.mono HB.out.size)); replace H4 := Aside.mk (blk_below H4.out hb); replace H5 := Aside.mk (blk_below H5.out hb); replace H12 := Aside.mk (blk_below H12.out hb); replace H14 := Aside.mk (blk_below H14.out hb); replace HO14 := Aside.mk (And.intro (Kd.C_below HO14.out.1 hb) HO14.out.2); clear hb; clear e0 e1 e2 e3 e4 e5 f0 f1 f2 f3 f4 f5 f6 f7 r0 r1 r2 r3 r4 r5; obtain ⟨e0, e1, e2, e3, e4, e5⟩ := blk_cell6 H4.out; obtain ⟨f0, f1, f2, f3, f4, f5, f6, f7⟩ := blk_cell4 H5.out; obtain ⟨r0, r1, r2, r3, r4, r5⟩ := blk_cell6 H12.out) | (go_at_call 34; refine (QSc.sakiaref36_Clean.calls _ _ _ B D a.data true _ (Kd.C_below HBD.out.1 HB.out) HBD.out.2 (by rw [QSc.clean_l, HCL.out])).mono ?_; rintro e w44 ⟨rfl, hb⟩; replace HB := Aside.mk (HB.out.trans (hb.mono HB.out.size)); replace H4 := Aside.mk (blk_below H4.out hb); replace H5 := Aside.mk (blk_below H5.out hb); replace H12 := Aside.mk (blk_below H12.out hb); replace H14 := Aside.mk (blk_below H14.out hb); replace HO14 := Aside.mk (And.intro (Kd.C_below HO14.out.1 hb) HO14.out.2); clear hb; clear e0 e1 e2 e3 e4 e5 f0 f1 f2 f3 f4 f5 f6 f7 r0 r1 r2 r3 r4 r5; obtain ⟨e0, e1, e2, e3, e4, e5⟩ := blk_cell6 H4.out; obtain ⟨f0, f1, f2, f3, f4, f5, f6, f7⟩ := blk_cell4 H5.out; obtain ⟨r0, r1, r2, r3, r4, r5⟩ := blk_cell6 H12.out))
            obtain ⟨u0, u1, u2, u3, u4, u5, u6, u7⟩ := blk_cell4 H14.out
            have a0x := fun o => pw_cell_below (below_alloc (Below.refl _ _) o) f0
            have a1x := fun o => pw_cell_below (below_alloc (Below.refl _ _) o) f1
            have a2x := fun o => pw_cell_below (below_alloc (Below.refl _ _) o) f2
            have a3x := fun o => pw_cell_below (below_alloc (Below.refl _ _) o) f3
            have b0x := fun o => pw_cell_below (below_alloc (Below.refl _ _) o) u0
            have b1x := fun o => pw_cell_below (below_alloc (Below.refl _ _) o) u1
            have b2x := fun o => pw_cell_below (below_alloc (Below.refl _ _) o) u2
            have b3x := fun o => pw_cell_below (below_alloc (Below.refl _ _) o) u3
            clear e0 e1 e2 e3 e4 e5 f4 f5 f6 f7 r0 r1 r2 r3 r4 r5 u4 u5 u6 u7 n1 m1 m2
            go_wp2_with fail
            refine (acts_two a A14 k14 B D _ HO14.out.1 HO14.out.2 (Kd.C_below HBD.out.1 HB.out) HBD.out.2 HD1.out).mono ?_
            rintro e w45 ⟨rfl, hb⟩
            replace HB := Aside.mk (HB.out.trans (hb.mono HB.out.size))
            clear hb f0 f1 f2 f3 u0 u1 u2 u3 a0x a1x a2x a3x b0x b1x b2x b3x
            go_wp2_with (go_at_call 28; refine (slive_ _ (HW.out.below HB.out)).mono ?_; rintro e w9 ⟨rfl, hb⟩; replace HB := Aside.mk (HB.out.trans (hb.mono HB.out.size)); clear hb)
            go_ret
            exact ⟨rfl, HB.out⟩
      · have n1 : (bs (confT c)).toList.isEmpty = false := by rw [confT_nil, decide_eq_true hvn]; rfl
        refine (conf_c c HC.out.1 HSM.out hvn _ (HW.out.below HB.out)).mono ?_
        rintro r w11 ⟨A12, k12, rfl, hO, hb⟩
        have HO12 := Aside.mk hO
        clear hO
        clear hvn
        replace HB := Aside.mk (HB.out.trans (hb.mono HB.out.size)); replace H4 := Aside.mk (blk_below H4.out hb); replace H5 := Aside.mk (blk_below H5.out hb); clear hb
        have H12 := Aside.mk (heap_alloc_new w11 (.cells #[.int .i64 c.variant, .int .i64 c.width, .int .i64 c.cap, .int .i64 c.prod, .int .u64 (c.start : Int), .slice A12 c.up.length k12] 46))
        have hb := below_alloc (Below.refl w11.heap.size w11) (.cells #[.int .i64 c.variant, .int .i64 c.width, .int .i64 c.cap, .int .i64 c.prod, .int .u64 (c.start : Int), .slice A12 c.up.length k12] 46)
        replace HB := Aside.mk (HB.out.trans (hb.mono HB.out.size)); replace H4 := Aside.mk (blk_below H4.out hb); replace H5 := Aside.mk (blk_below H5.out hb); replace HO12 := Aside.mk (And.intro (Kd.C_below HO12.out.1 hb) HO12.out.2); clear hb
        go_upto_region 8 with (fail)
        generalize w11.alloc (.cells #[.int .i64 c.variant, .int .i64 c.width, .int .i64 c.cap, .int .i64 c.prod, .int .u64 (c.start : Int), .slice A12 c.up.length k12] 46) = w12 at *
        generalize w11.heap.size = g12 at *
        obtain ⟨f0, f1, f2, f3, f4, f5, f6, f7⟩ := blk_cell4 H5.out
        go_wp2_with fail
        refine (QSc.sakiaref36_Act.calls _ _ _ B D a.data 7 _ _ (Kd.C_below HBD.out.1 HB.out) HBD.out.2 (QSc.act_l a HAC.out (by have := HD1.out; omega) 7 (by decide))).mono ?_
        rintro e w13 ⟨rfl, hb⟩
        replace HB := Aside.mk (HB.out.trans (hb.mono HB.out.size)); replace H4 := Aside.mk (blk_below H4.out hb); replace H5 := Aside.mk (blk_below H5.out hb); replace H12 := Aside.mk (blk_below H12.out hb); replace HO12 := Aside.mk (And.intro (Kd.C_below HO12.out.1 hb) HO12.out.2); clear hb
        clear f0 f1 f2 f3 f4 f5 f6 f7
        go_wp2_with fail
        cases hcl : cleanA a
        · have HCL := Aside.mk hcl
          refine (act_n a HAC.out HD1.out hcl _ (HW.out.below HB.out)).mono ?_
          rintro r w14 ⟨A14, k14, rfl, hb⟩
          clear hcl
          replace HB := Aside.mk (HB.out.trans (hb.mono HB.out.size)); replace H4 := Aside.mk (blk_below H4.out hb); replace H5 := Aside.mk (blk_below H5.out hb); replace H12 := Aside.mk (blk_below H12.out hb); replace HO12 := Aside.mk (And.intro (Kd.C_below HO12.out.1 hb) HO12.out.2); clear hb
          have H14 := Aside.mk (heap_alloc_new w14 (.cells #[.int .i64 0, .int .i64 0, .int .i64 0, .slice A14 0 k14] 50))
          have hb := below_alloc (Below.refl w14.heap.size w14) (.cells #[.int .i64 0, .int .i64 0, .int .i64 0, .slice A14 0 k14] 50)
          replace HB := Aside.mk (HB.out.trans (hb.mono HB.out.size)); replace H4 := Aside.mk (blk_below H4.out hb); replace H5 := Aside.mk (blk_below H5.out hb); replace H12 := Aside.mk (blk_below H12.out hb); replace HO12 := Aside.mk (And.intro (Kd.C_below HO12.out.1 hb) HO12.out.2); clear hb
          go_upto_region 9 with (fail)
          generalize w14.alloc (.cells #[.int .i64 0, .int .i64 0, .int .i64 0, .slice A14 0 k14] 50) = w15 at *
          generalize w14.heap.size = g14 at *
          obtain ⟨e0, e1, e2, e3, e4, e5⟩ := blk_cell6 H4.out
          obtain ⟨f0, f1, f2, f3, f4, f5, f6, f7⟩ := blk_cell4 H5.out
          obtain ⟨r0, r1, r2, r3, r4, r5⟩ := blk_cell6 H12.out
          go_wp2_with (first | (go_at_call 31; refine (QSc.sakiaref36_Conf.calls 1000 _ _ _ _ _ A C c.up _ _ (Kd.C_below HA.out.1 HB.out) HA.out.2 (QSc.conf_l c HC.out.1 HC.out.2 HSM.out)).mono ?_; rintro e w41 ⟨rfl, hb⟩; replace HB := Aside.mk (HB.out.trans (hb.mono HB.out.size)); replace H4 := Aside.mk (blk_below H4.out hb); replace H5 := Aside.mk (blk_below H5.out hb); replace H12 := Aside.mk (blk_below H12.out hb); replace H14 := Aside.mk (blk_below H14.out hb); replace HO12 := Aside.mk (And.intro (Kd.C_below HO12.out.1 hb) HO12.out.2); clear hb; clear e0 e1 e2 e3 e4 e5 f0 f1 f2 f3 f4 f5 f6 f7 r0 r1 r2 r3 r4 r5; obtain ⟨e0, e1, e2, e3, e4, e5⟩ := blk_cell6 H4.out; obtain ⟨f0, f1, f2, f3, f4, f5, f6, f7⟩ := blk_cell4 H5.out; obtain ⟨r0, r1, r2, r3, r4, r5⟩ := blk_cell6 H12.out) | (go_at_call 33; refine (QSc.sakiaref10_Same.calls 1000 _ _ _ _ _ A12 k12 c.up _ _ _ _ _ A C c.up true _ HO12.out.1 HO12.out.2 (Kd.C_below HA.out.1 HB.out) HA.out.2 (QSc.csame_refl _ _ _ _ _ c.up (by have := HSM.out.1; omega) (fun l hl => by have := HSM.out.2 l hl; omega))).mono ?_; rintro e w43 ⟨rfl, hb⟩; replace HB := Aside.mk (HB.out.trans (hb.mono HB.out.size)); replace H4 := Aside.mk (blk_below H4.out hb); replace H5 := Aside.mk (blk_below H5.out hb); replace H12 := Aside.mk (blk_below H12.out hb); replace H14 := Aside.mk (blk_below H14.out hb); replace HO12 := Aside.mk (And.intro (Kd.C_below HO12.out.1 hb) HO12.out.2); clear hb; clear e0 e1 e2 e3 e4 e5 f0 f1 f2 f3 f4 f5 f6 f7 r0 r1 r2 r3 r4 r5; obtain ⟨e0, e1, e2, e3, e4, e5⟩ := blk_cell6 H4.out; obtain ⟨f0, f1, f2, f3, f4, f5, f6, f7⟩ := blk_cell4 H5.out; obtain ⟨r0, r1, r2, r3, r4, r5⟩ := blk_cell6 H12.out) | (go_at_call 34; refine (QSc.sakiaref36_Clean.calls _ _ _ B D a.data false _ (Kd.C_below HBD.out.1 HB.out) HBD.out.2 (by rw [QSc.clean_l, HCL.out])).mono ?_; rintro e w44 ⟨rfl, hb⟩; replace HB := Aside.mk (HB.out.trans (hb.mono HB.out.size)); replace H4 := Aside.mk (blk_below H4.out hb); replace H5 := Aside.mk (blk_below H5.out hb); replace H12 := Aside.mk (blk_below H12.out hb); replace H14 := Aside.mk (blk_below H14.out hb); replace HO12 := Aside.mk (And.intro (Kd.C_below HO12.out.1 hb) HO12.out.2); clear hb; clear e0 e1 e2 e3 e4 e5 f0 f1 f2 f3 f4 f5 f6 f7 r0 r1 r2 r3 r4 r5; obtain ⟨e0, e1, e2, e3, e4, e5⟩ := blk_cell6 H4.out; obtain ⟨f0, f1, f2, f3, f4, f5, f6, f7⟩ := blk_cell4 H5.out; obtain ⟨r0, r1, r2, r3, r4, r5⟩ := blk_cell6 H12.out) | (go_at_call 28; refine (slive_ _ (HW.out.below HB.out)).mono ?_; rintro e w9 ⟨rfl, hb⟩; replace HB := Aside.mk (HB.out.trans (hb.mono HB.out.size)); clear hb))
          go_ret
          exact ⟨rfl, HB.out⟩
        · have HCL := Aside.mk hcl
          by_cases hop : a.op = 0
          · have m1 : (a.op == 0) = true := by rw [hop]; rfl
            have m2 : decide (a.op = 0) = true := decide_eq_true hop
            refine (act_c a HAC.out HD1.out hcl 7 (by rw [if_pos hop]) _ (HW.out.below HB.out)).mono ?_
            rintro r w14 ⟨A14, k14, rfl, hO, hb⟩
            have HO14 := Aside.mk hO
            clear hO hop hcl
            replace HB := Aside.mk (HB.out.trans (hb.mono HB.out.size)); replace H4 := Aside.mk (blk_below H4.out hb); replace H5 := Aside.mk (blk_below H5.out hb); replace H12 := Aside.mk (blk_below H12.out hb); replace HO12 := Aside.mk (And.intro (Kd.C_below HO12.out.1 hb) HO12.out.2); clear hb
            have H14 := Aside.mk (heap_alloc_new w14 (.cells #[.int .i64 a.thread, .int .i64 a.op, .int .i64 a.n, .slice A14 a.data.length k14] 50))
            have hb := below_alloc (Below.refl w14.heap.size w14) (.cells #[.int .i64 a.thread, .int .i64 a.op, .int .i64 a.n, .slice A14 a.data.length k14] 50)
            replace HB := Aside.mk (HB.out.trans (hb.mono HB.out.size)); replace H4 := Aside.mk (blk_below H4.out hb); replace H5 := Aside.mk (blk_below H5.out hb); replace H12 := Aside.mk (blk_below H12.out hb); replace HO12 := Aside.mk (And.intro (Kd.C_below HO12.out.1 hb) HO12.out.2); replace HO14 := Aside.mk (And.intro (Kd.C_below HO14.out.1 hb) HO14.out.2); clear hb
            go_upto_region 9 with (fail)
            generalize w14.alloc (.cells #[.int .i64 a.thread, .int .i64 a.op, .int .i64 a.n, .slice A14 a.data.length k14] 50) = w15 at *
            generalize w14.heap.size = g14 at *
            obtain ⟨e0, e1, e2, e3, e4, e5⟩ := blk_cell6 H4.out
            obtain ⟨f0, f1, f2, f3, f4, f5, f6, f7⟩ := blk_cell4 H5.out
            obtain ⟨r0, r1, r2, r3, r4, r5⟩ := blk_cell6 H12.out
            go_upto_region 16 with (first | (go_at_call 31; refine (QSc.sakiaref36_Conf.calls 1000 _ _ _ _ _ A C c.up _ _ (Kd.C_below HA.out.1 HB.out) HA.out.2 (QSc.conf_l c HC.out.1 HC.out.2 HSM.out)).mono ?_; rintro e w41 ⟨rfl, hb⟩; replace HB := Aside.mk (HB.out.trans (hb.mono HB.out.size)); replace H4 := Aside.mk (blk_below H4.out hb); replace H5 := Aside.mk (blk_below H5.out hb); replace H12 := Aside.mk (blk_below H12.out hb); replace H14 := Aside.mk (blk_below H14.out hb); replace HO12 := Aside.mk (And.intro (Kd.C_below HO12.out.1 hb) HO12.out.2); replace HO14 := Aside.mk (And.intro (Kd.C_below HO14.out.1 hb) HO14.out.2); clear hb; clear e0 e1 e2 e3 e4 e5 f0 f1 f2 f3 f4 f5 f6 f7 r0 r1 r2 r3 r4 r5; obtain ⟨e0, e1, e2, e3, e4, e5⟩ := blk_cell6 H4.out; obtain ⟨f0, f1, f2, f3, f4, f5, f6, f7⟩ := blk_cell4 H5.out; obtain ⟨r0, r1, r2, r3, r4, r5⟩ := blk_cell6 H12.out) | (go_at_call 33; refine (QSc.sakiaref10_Same.calls 1000 _ _ _ _ _ A12 k12 c.up _ _ _ _ _ A C c.up true _ HO12.out.1 HO12.out.2 (Kd.C_below HA.out.1 HB.out) HA.out.2 (QSc.csame_refl _ _ _ _ _ c.up (by have := HSM.out.1; omega) (fun l hl => by have := HSM.out.2 l hl; omega))).mono ?_; rintro e w43 ⟨rfl, hb⟩; replace HB := Aside.mk (HB.out.trans (hb.mono HB.out.size)); replace H4 := Aside.mk (blk_below H4.out hb); replace H5 := Aside.mk (blk_below H5.out hb); replace H12 := Aside.mk (blk_below H12.out hb); replace H14 := Aside.mk (blk_below H14.out hb); replace HO12 := Aside.mk (And.intro (Kd.C_below HO12.out.1 hb) HO12.out.2); replace HO14 := Aside.mk (And.intro (Kd.C_below HO14.out.1 hb) HO14.out.2); clear hb; clear e0 e1 e2 e3 e4 e5 f0 f1 f2 f3 f4 f5 f6 f7 r0 r1 r2 r3 r4 r5; obtain ⟨e0, e1, e2, e3, e4, e5⟩ := blk_cell6 H4.out; obtain ⟨f0, f1, f2, f3, f4, f5, f6, f7⟩ := blk_cell4 H5.out; obtain ⟨r0, r1, r2, r3, r4, r5⟩ := blk_cell6 H12.out) | (go_at_call 34; refine (QSc.sakiaref36_Clean.calls _ _ _ B D a.data true _ (Kd.C_below HBD.out.1 HB.out) HBD.out.2 (by rw [QSc.clean_l, HCL.out])).mono ?_; rintro e w44 ⟨rfl, hb⟩; replace HB := Aside.mk (HB.out.trans (hb.mono HB.out.size)); replace H4 := Aside.mk (blk_below H4.out hb); replace H5 := Aside.mk (blk_below H5.out hb); replace H12 := Aside.mk (blk_below H12.out hb); replace H14 := Aside.mk (blk_below H14.out hb); replace HO12 := Aside.mk (And.intro (Kd.C_below HO12.out.1 hb) HO12.out.2); replace HO14 := Aside.mk (And.intro (Kd.C_below HO14.out.1 hb) HO14.out.2); clear hb; clear e0 e1 e2 e3 e4 e5 f0 f1 f2 f3 f4 f5 f6 f7 r0 r1 r2 r3 r4 r5; obtain ⟨e0, e1, e2, e3, e4, e5⟩ := blk_cell6 H4.out; obtain ⟨f0, f1, f2, f3, f4, f5, f6, f7⟩ := blk_cell4 H5.out; obtain ⟨r0, r1, r2, r3, r4, r5⟩ := blk_cell6 H12.out))
            obtain ⟨u0, u1, u2, u3, u4, u5, u6, u7⟩ := blk_cell4 H14.out
            have a0x := fun o => pw_cell_below (below_alloc (Below.refl _ _) o) f0
            have a1x := fun o => pw_cell_below (below_alloc (Below.refl _ _) o) f1
            have a2x := fun o => pw_cell_below (below_alloc (Below.refl _ _) o) f2
            have a3x := fun o => pw_cell_below (below_alloc (Below.refl _ _) o) f3
            have b0x := fun o => pw_cell_below (below_alloc (Below.refl _ _) o) u0
            have b1x := fun o => pw_cell_below (below_alloc (Below.refl _ _) o) u1
            have b2x := fun o => pw_cell_below (below_alloc (Below.refl _ _) o) u2
            have b3x := fun o => pw_cell_below (below_alloc (Below.refl _ _) o) u3
            clear e0 e1 e2 e3 e4 e5 f4 f5 f6 f7 r0 r1 r2 r3 r4 r5 u4 u5 u6 u7 n1 m1 m2
            go_wp2_with fail
            refine (acts_two a A14 k14 B D _ HO14.out.1 HO14.out.2 (Kd.C_below HBD.out.1 HB.out) HBD.out.2 HD1.out).mono ?_
            rintro e w45 ⟨rfl, hb⟩
            replace HB := Aside.mk (HB.out.trans (hb.mono HB.out.size))
            clear hb f0 f1 f2 f3 u0 u1 u2 u3 a0x a1x a2x a3x b0x b1x b2x b3x
            go_wp2_with (go_at_call 28; refine (slive_ _ (HW.out.below HB.out)).mono ?_; rintro e w9 ⟨rfl, hb⟩; replace HB := Aside.mk (HB.out.trans (hb.mono HB.out.size)); clear hb)
            go_ret
            exact ⟨rfl, HB.out⟩
          · have m1 : (a.op == 0) = false := by simpa using hop
            have m2 : decide (a.op = 0) = false := decide_eq_false hop
            refine (act_c a HAC.out HD1.out hcl 1 (by rw [if_neg hop]) _ (HW.out.below HB.out)).mono ?_
            rintro r w14 ⟨A14, k14, rfl, hO, hb⟩
            have HO14 := Aside.mk hO
            clear hO hop hcl
            replace HB := Aside.mk (HB.out.trans (hb.mono HB.out.size)); replace H4 := Aside.mk (blk_below H4.out hb); replace H5 := Aside.mk (blk_below H5.out hb); replace H12 := Aside.mk (blk_below H12.out hb); replace HO12 := Aside.mk (And.intro (Kd.C_below HO12.out.1 hb) HO12.out.2); clear hb
            have H14 := Aside.mk (heap_alloc_new w14 (.cells #[.int .i64 a.thread, .int .i64 a.op, .int .i64 a.n, .slice A14 a.data.length k14] 50))
            have hb := below_alloc (Below.refl w14.heap.size w14) (.cells #[.int .i64 a.thread, .int .i64 a.op, .int .i64 a.n, .slice A14 a.data.length k14] 50)
            replace HB := Aside.mk (HB.out.trans (hb.mono HB.out.size)); replace H4 := Aside.mk (blk_below H4.out hb); replace H5 := Aside.mk (blk_below H5.out hb); replace H12 := Aside.mk (blk_below H12.out hb); replace HO12 := Aside.mk (And.intro (Kd.C_below HO12.out.1 hb) HO12.out.2); replace HO14 := Aside.mk (And.intro (Kd.C_below HO14.out.1 hb) HO14.out.2); clear hb
            go_upto_region 9 with (fail)
            generalize w14.alloc (.cells #[.int .i64 a.thread, .int .i64 a.op, .int .i64 a.n, .slice A14 a.data.length k14] 50) = w15 at *
            generalize w14.heap.size = g14 at *
            obtain ⟨e0, e1, e2, e3, e4, e5⟩ := blk_cell6 H4.out
            obtain ⟨f0, f1, f2, f3, f4, f5, f6, f7⟩ := blk_cell4 H5.out
            obtain ⟨r0, r1, r2, r3, r4, r5⟩ := blk_cell6 H12.out
            go_upto_region 16 with (first | (go_at_call 31; refine (QSc.sakiaref36_Conf.calls 1000 _ _ _ _ _ A C c.up _ _ (Kd.C_below HA.out.1 HB.out) HA.out.2 (QSc.conf_l c HC.out.1 HC.out.2 HSM.out)).mono ?_; rintro e w41 ⟨rfl, hb⟩; replace HB := Aside.mk (HB.out.trans (hb.mono HB.out.size)); replace H4 := Aside.mk (blk_below H4.out hb); replace H5 := Aside.mk (blk_below H5.out hb); replace H12 := Aside.mk (blk_below H12.out hb); replace H14 := Aside.mk (blk_below H14.out hb); replace HO12 := Aside.mk (And.intro (Kd.C_below HO12.out.1 hb) HO12.out.2); replace HO14 := Aside.mk (And.intro (Kd.C_below HO14.out.1 hb) HO14.out.2); clear hb; clear e0 e1 e2 e3 e4 e5 f0 f1 f2 f3 f4 f5 f6 f7 r0 r1 r2 r3 r4 r5; obtain ⟨e0, e1, e2, e3, e4, e5⟩ := blk_cell6 H4.out; obtain ⟨f0, f1, f2, f3, f4, f5, f6, f7⟩ := blk_cell4 H5.out; obtain ⟨r0, r1, r2, r3, r4, r5⟩ := blk_cell6 H12.out) | (go_at_call 33; refine (QSc.sakiaref10_Same.calls 1000 _ _ _ _ _ A12 k12 c.up _ _ _ _ _ A C c.up true _ HO12.out.1 HO12.out.2 (Kd.C_below HA.out.1 HB.out) HA.out.2 (QSc.csame_refl _ _ _ _ _ c.up (by have := HSM.out.1; omega) (fun l hl => by have := HSM.out.2 l hl; omega))).mono ?_; rintro e w43 ⟨rfl, hb⟩; replace HB := Aside.mk (HB.out.trans (hb.mono HB.out.size)); replace H4 := Aside.mk (blk_below H4.out hb); replace H5 := Aside.mk (blk_below H5.out hb); replace H12 := Aside.mk (blk_below H12.out hb); replace H14 := Aside.mk (blk_below H14.out hb); replace HO12 := Aside.mk (And.intro (Kd.C_below HO12.out.1 hb) HO12.out.2); replace HO14 := Aside.mk (And.intro (Kd.C_below HO14.out.1 hb) HO14.out.2); clear hb; clear e0 e1 e2 e3 e4 e5 f0 f1 f2 f3 f4 f5 f6 f7 r0 r1 r2 r3 r4 r5; obtain ⟨e0, e1, e2, e3, e4, e5⟩ := blk_cell6 H4.out; obtain ⟨f0, f1, f2, f3, f4, f5, f6, f7⟩ := blk_cell4 H5.out; obtain ⟨r0, r1, r2, r3, r4, r5⟩ := blk_cell6 H12.out) | (go_at_call 34; refine (QSc.sakiaref36_Clean.calls _ _ _ B D a.data true _ (Kd.C_below HBD.out.1 HB.out) HBD.out.2 (by rw [QSc.clean_l, HCL.out])).mono ?_; rintro e w44 ⟨rfl, hb⟩; replace HB := Aside.mk (HB.out.trans (hb.mono HB.out.size)); replace H4 := Aside.mk (blk_below H4.out hb); replace H5 := Aside.mk (blk_below H5.out hb); replace H12 := Aside.mk (blk_below H12.out hb); replace H14 := Aside.mk (blk_below H14.out hb); replace HO12 := Aside.mk (And.intro (Kd.C_below HO12.out.1 hb) HO12.out.2); replace HO14 := Aside.mk (And.intro (Kd.C_below HO14.out.1 hb) HO14.out.2); clear hb; clear e0 e1 e2 e3 e4 e5 f0 f1 f2 f3 f4 f5 f6 f7 r0 r1 r2 r3 r4 r5; obtain ⟨e0, e1, e2, e3, e4, e5⟩ := blk_cell6 H4.out; obtain ⟨f0, f1, f2, f3, f4, f5, f6, f7⟩ := blk_cell4 H5.out; obtain ⟨r0, r1, r2, r3, r4, r5⟩ := blk_cell6 H12.out))
            obtain ⟨u0, u1, u2, u3, u4, u5, u6, u7⟩ := blk_cell4 H14.out
            have a0x := fun o => pw_cell_below (below_alloc (Below.refl _ _) o) f0
            have a1x := fun o => pw_cell_below (below_alloc (Below.refl _ _) o) f1
            have a2x := fun o => pw_cell_below (below_alloc (Below.refl _ _) o) f2
            have a3x := fun o => pw_cell_below (below_alloc (Below.refl _ _) o) f3
            have b0x := fun o => pw_cell_below (below_alloc (Below.refl _ _) o) u0
            have b1x := fun o => pw_cell_below (below_alloc (Below.refl _ _) o) u1
            have b2x := fun o => pw_cell_below (below_alloc (Below.refl _ _) o) u2
            have b3x := fun o => pw_cell_below (below_alloc (Below.refl _ _) o) u3
            clear e0 e1 e2 e3 e4 e5 f4 f5 f6 f7 r0 r1 r2 r3 r4 r5 u4 u5 u6 u7 n1 m1 m2
            go_wp2_with fail
            refine (acts_two a A14 k14 B D _ HO14.out.1 HO14.out.2 (Kd.C_below HBD.out.1 HB.out) HBD.out.2 HD1.out).mono ?_
            rintro e w45 ⟨rfl, hb⟩
            replace HB := Aside.mk (HB.out.trans (hb.mono HB.out.size))
            clear hb f0 f1 f2 f3 u0 u1 u2 u3 a0x a1x a2x a3x b0x b1x b2x b3x
            go_wp2_with (go_at_call 28; refine (slive_ _ (HW.out.below HB.out)).mono ?_; rintro e w9 ⟨rfl, hb⟩; replace HB := Aside.mk (HB.out.trans (hb.mono HB.out.size)); clear hb)
            go_ret
            exact ⟨rfl, HB.out⟩
    · have y1 : (valC s).variant = 0 := by rw [resC_no hrc]
      have y2 : (valC s).up.length = 0 := by rw [resC_no hrc]; rfl
      rw [y1] at p0
      rw [y2] at p5
      clear y1 y2
      have HRA := Aside.mk hra
      clear hrc hra
      go_upto_region 7 with ((go_at_call 32; refine (actback_ s HRA.out A9 c9 _ HN.out.1 HN.out.2 HS3.out).mono ?_; rintro e w32 ⟨rfl, hb⟩; replace HB := Aside.mk (HB.out.trans (hb.mono HB.out.size)); replace H4 := Aside.mk (blk_below H4.out hb); replace H5 := Aside.mk (blk_below H5.out hb); clear hb))
      obtain ⟨e0, e1, e2, e3, e4, e5⟩ := blk_cell6 H4.out
      go_wp2_with fail
      refine (QSc.sakiaref36_Conf.calls 1000 _ _ _ _ _ A C c.up _ _ (Kd.C_below HA.out.1 HB.out) HA.out.2 (QSc.conf_l c HC.out.1 HC.out.2 HSM.out)).mono ?_
      rintro e w10 ⟨rfl, hb⟩
      replace HB := Aside.mk (HB.out.trans (hb.mono HB.out.size)); replace H4 := Aside.mk (blk_below H4.out hb); replace H5 := Aside.mk (blk_below H5.out hb); clear hb
      clear e0 e1 e2 e3 e4 e5
      go_wp2_with fail
      by_cases hvn : varT c.variant = []
      · have n1 : (bs (confT c)).toList.isEmpty = true := by rw [confT_nil, decide_eq_false (by simpa using hvn)]; rfl
        refine (conf_n c HC.out.1 HSM.out hvn _ (HW.out.below HB.out)).mono ?_
        rintro r w11 ⟨A12, k12, rfl, hb⟩
        clear hvn
        replace HB := Aside.mk (HB.out.trans (hb.mono HB.out.size)); replace H4 := Aside.mk (blk_below H4.out hb); replace H5 := Aside.mk (blk_below H5.out hb); clear hb
        have H12 := Aside.mk (heap_alloc_new w11 (.cells #[.int .i64 0, .int .i64 0, .int .i64 0, .int .i64 0, .int .u64 0, .slice A12 0 k12] 46))
        have hb := below_alloc (Below.refl w11.heap.size w11) (.cells #[.int .i64 0, .int .i64 0, .int .i64 0, .int .i64 0, .int .u64 0, .slice A12 0 k12] 46)
        replace HB := Aside.mk (HB.out.trans (hb.mono HB.out.size)); replace H4 := Aside.mk (blk_below H4.out hb); replace H5 := Aside.mk (blk_below H5.out hb); clear hb
        go_upto_region 8 with (fail)
        generalize w11.alloc (.cells #[.int .i64 0, .int .i64 0, .int .i64 0, .int .i64 0, .int .u64 0, .slice A12 0 k12] 46) = w12 at *
        generalize w11.heap.size = g12 at *
        obtain ⟨f0, f1, f2, f3, f4, f5, f6, f7⟩ := blk_cell4 H5.out
        go_wp2_with fail
        refine (QSc.sakiaref36_Act.calls _ _ _ B D a.data 7 _ _ (Kd.C_below HBD.out.1 HB.out) HBD.out.2 (QSc.act_l a HAC.out (by have := HD1.out; omega) 7 (by decide))).mono ?_
        rintro e w13 ⟨rfl, hb⟩
        replace HB := Aside.mk (HB.out.trans (hb.mono HB.out.size)); replace H4 := Aside.mk (blk_below H4.out hb); replace H5 := Aside.mk (blk_below H5.out hb); replace H12 := Aside.mk (blk_below H12.out hb); clear hb
        clear f0 f1 f2 f3 f4 f5 f6 f7
        go_wp2_with fail
        cases hcl : cleanA a
        · have HCL := Aside.mk hcl
          refine (act_n a HAC.out HD1.out hcl _ (HW.out.below HB.out)).mono ?_
          rintro r w14 ⟨A14, k14, rfl, hb⟩
          clear hcl
          replace HB := Aside.mk (HB.out.trans (hb.mono HB.out.size)); replace H4 := Aside.mk (blk_below H4.out hb); replace H5 := Aside.mk (blk_below H5.out hb); replace H12 := Aside.mk (blk_below H12.out hb); clear hb
          have H14 := Aside.mk (heap_alloc_new w14 (.cells #[.int .i64 0, .int .i64 0, .int .i64 0, .slice A14 0 k14] 50))
          have hb := below_alloc (Below.refl w14.heap.size w14) (.cells #[.int .i64 0, .int .i64 0, .int .i64 0, .slice A14 0 k14] 50)
          replace HB := Aside.mk (HB.out.trans (hb.mono HB.out.size)); replace H4 := Aside.mk (blk_below H4.out hb); replace H5 := Aside.mk (blk_below H5.out hb); replace H12 := Aside.mk (blk_below H12.out hb); clear hb
          go_upto_region 9 with (fail)
          generalize w14.alloc (.cells #[.int .i64 0, .int .i64 0, .int .i64 0, .slice A14 0 k14] 50) = w15 at *
          generalize w14.heap.size = g14 at *
          obtain ⟨e0, e1, e2, e3, e4, e5⟩ := blk_cell6 H4.out
          obtain ⟨f0, f1, f2, f3, f4, f5, f6, f7⟩ := blk_cell4 H5.out
          obtain ⟨r0, r1, r2, r3, r4, r5⟩ := blk_cell6 H12.out
          go_wp2_with (first | (go_at_call 31; refine (QSc.sakiaref36_Conf.calls 1000 _ _ _ _ _ A C c.up _ _ (Kd.C_below HA.out.1 HB.out) HA.out.2 (QSc.conf_l c HC.out.1 HC.out.2 HSM.out)).mono ?_; rintro e w41 ⟨rfl, hb⟩; replace HB := Aside.mk (HB.out.trans (hb.mono HB.out.size)); replace H4 := Aside.mk (blk_below H4.out hb); replace H5 := Aside.mk (blk_below H5.out hb); replace H12 := Aside.mk (blk_below H12.out hb); replace H14 := Aside.mk (blk_below H14.out hb); clear hb; clear e0 e1 e2 e3 e4 e5 f0 f1 f2 f3 f4 f5 f6 f7 r0 r1 r2 r3 r4 r5; obtain ⟨e0, e1, e2, e3, e4, e5⟩ := blk_cell6 H4.out; obtain ⟨f0, f1, f2, f3, f4, f5, f6, f7⟩ := blk_cell4 H5.out; obtain ⟨r0, r1, r2, r3, r4, r5⟩ := blk_cell6 H12.out) | (go_at_call 34; refine (QSc.sakiaref36_Clean.calls _ _ _ B D a.data false _ (Kd.C_below HBD.out.1 HB.out) HBD.out.2 (by rw [QSc.clean_l, HCL.out])).mono ?_; rintro e w44 ⟨rfl, hb⟩; replace HB := Aside.mk (HB.out.trans (hb.mono HB.out.size)); replace H4 := Aside.mk (blk_below H4.out hb); replace H5 := Aside.mk (blk_below H5.out hb); replace H12 := Aside.mk (blk_below H12.out hb); replace H14 := Aside.mk (blk_below H14.out hb); clear hb; clear e0 e1 e2 e3 e4 e5 f0 f1 f2 f3 f4 f5 f6 f7 r0 r1 r2 r3 r4 r5; obtain ⟨e0, e1, e2, e3, e4, e5⟩ := blk_cell6 H4.out; obtain ⟨f0, f1, f2, f3, f4, f5, f6, f7⟩ := blk_cell4 H5.out; obtain ⟨r0, r1, r2, r3, r4, r5⟩ := blk_cell6 H12.out) | (go_at_call 28; refine (slive_ _ (HW.out.below HB.out)).mono ?_; rintro e w9 ⟨rfl, hb⟩; replace HB := Aside.mk (HB.out.trans (hb.mono HB.out.size)); clear hb))
          go_ret
          exact ⟨rfl, HB.out⟩
        · have HCL := Aside.mk hcl
          by_cases hop : a.op = 0
          · have m1 : (a.op == 0) = true := by rw [hop]; rfl
            have m2 : decide (a.op = 0) = true := decide_eq_true hop
            refine (act_c a HAC.out HD1.out hcl 7 (by rw [if_pos hop]) _ (HW.out.below HB.out)).mono ?_
            rintro r w14 ⟨A14, k14, rfl, hO, hb⟩
            have HO14 := Aside.mk hO
            clear hO hop hcl
            replace HB := Aside.mk (HB.out.trans (hb.mono HB.out.size)); replace H4 := Aside.mk (blk_below H4.out hb); replace H5 := Aside.mk (blk_below H5.out hb); replace H12 := Aside.mk (blk_below H12.out hb); clear hb
            have H14 := Aside.mk (heap_alloc_new w14 (.cells #[.int .i64 a.thread, .int .i64 a.op, .int .i64 a.n, .slice A14 a.data.length k14] 50))
            have hb := below_alloc (Below.refl w14.heap.size w14) (.cells #[.int .i64 a.thread, .int .i64 a.op, .int .i64 a.n, .slice A14 a.data.length k14] 50)
            replace HB := Aside.mk (HB.out.trans (hb.mono HB.out.size)); replace H4 := Aside.mk (blk_below H4.out hb); replace H5 := Aside.mk (blk_below H5.out hb); replace H12 := Aside.mk (blk_below H12.out hb); replace HO14 := Aside.mk (And.intro (Kd.C_below HO14.out.1 hb) HO14.out.2); clear hb
            go_upto_region 9 with (fail)
            generalize w14.alloc (.cells #[.int .i64 a.thread, .int .i64 a.op, .int .i64 a.n, .slice A14 a.data.length k14] 50) = w15 at *
            generalize w14.heap.size = g14 at *
            obtain ⟨e0, e1, e2, e3, e4, e5⟩ := blk_cell6 H4.out
            obtain ⟨f0, f1, f2, f3, f4, f5, f6, f7⟩ := blk_cell4 H5.out
            obtain ⟨r0, r1, r2, r3, r4, r5⟩ := blk_cell6 H12.out
            go_upto_region 16 with (first | (go_at_call 31; refine (QSc.sakiaref36_Conf.calls 1000 _ _ _ _ _ A C c.up _ _ (Kd.C_below HA.out.1 HB.out) HA.out.2 (QSc.conf_l c HC.out.1 HC.out.2 HSM.out)).mono ?_; rintro e w41 ⟨rfl, hb⟩; replace HB := Aside.mk (HB.out.trans (hb.mono HB.out.size)); replace H4 := Aside.mk (blk_below H4.out hb); replace H5 := Aside.mk (blk_below H5.out hb); replace H12 := Aside.mk (blk_below H12.out hb); replace H14 := Aside.mk (blk_below H14.out hb); replace HO14 := Aside.mk (And.intro (Kd.C_below HO14.out.1 hb) HO14.out.2); clear hb; clear e0 e1 e2 e3 e4 e5 f0 f1 f2 f3 f4 f5 f6 f7 r0 r1 r2 r3 r4 r5; obtain ⟨e0, e1, e2, e3, e4, e5⟩ := blk_cell6 H4.out; obtain ⟨f0, f1, f2, f3, f4, f5, f6, f7⟩ := blk_cell4 H5.out; obtain ⟨r0, r1, r2, r3, r4, r5⟩ := blk_cell6 H12.out) | (go_at_call 34; refine (QSc.sakiaref36_Clean.calls _ _ _ B D a.data true _ (Kd.C_below HBD.out.1 HB.out) HBD.out.2 (by rw [QSc.clean_l, HCL.out])).mono ?_; rintro e w44 ⟨rfl, hb⟩; replace HB := Aside.mk (HB.out.trans (hb.mono HB.out.size)); replace H4 := Aside.mk (blk_below H4.out hb); replace H5 := Aside.mk (blk_below H5.out hb); replace H12 := Aside.mk (blk_below H12.out hb); replace H14 := Aside.mk (blk_below H14.out hb); replace HO14 := Aside.mk (And.intro (Kd.C_below HO14.out.1 hb) HO14.out.2); clear hb; clear e0 e1 e2 e3 e4 e5 f0 f1 f2 f3 f4 f5 f6 f7 r0 r1 r2 r3 r4 r5; obtain ⟨e0, e1, e2, e3, e4, e5⟩ := blk_cell6 H4.out; obtain ⟨f0, f1, f2, f3, f4, f5, f6, f7⟩ := blk_cell4 H5.out; obtain ⟨r0, r1, r2, r3, r4, r5⟩ := blk_cell6 H12.out))
            obtain ⟨u0, u1, u2, u3, u4, u5, u6, u7⟩ := blk_cell4 H14.out
            have a0x := fun o => pw_cell_below (below_alloc (Below.refl _ _) o) f0
            have a1x := fun o => pw_cell_below (below_alloc (Below.refl _ _) o) f1
            have a2x := fun o => pw_cell_below (below_alloc (Below.refl _ _) o) f2
            have a3x := fun o => pw_cell_below (below_alloc (Below.refl _ _) o) f3
            have b0x := fun o => pw_cell_below (below_alloc (Below.refl _ _) o) u0
            have b1x := fun o => pw_cell_below (below_alloc (Below.refl _ _) o) u1
            have b2x := fun o => pw_cell_below (below_alloc (Below.refl _ _) o) u2
            have b3x := fun o => pw_cell_below (below_alloc (Below.refl _ _) o) u3
            clear e0 e1 e2 e3 e4 e5 f4 f5 f6 f7 r0 r1 r2 r3 r4 r5 u4 u5 u6 u7 n1 m1 m2
            go_wp2_with fail
            refine (acts_two a A14 k14 B D _ HO14.out.1 HO14.out.2 (Kd.C_below HBD.out.1 HB.out) HBD.out.2 HD1.out).mono ?_
            rintro e w45 ⟨rfl, hb⟩
            replace HB := Aside.mk (HB.out.trans (hb.mono HB.out.size))
            clear hb f0 f1 f2 f3 u0 u1 u2 u3 a0x a1x a2x a3x b0x b1x b2x b3x
            go_wp2_with (go_at_call 28; refine (slive_ _ (HW.out.below HB.out)).mono ?_; rintro e w9 ⟨rfl, hb⟩; replace HB := Aside.mk (HB.out.trans (hb.mono HB.out.size)); clear hb)
            go_ret
            exact ⟨rfl, HB.out⟩
          · have m1 : (a.op == 0) = false := by simpa using hop
            have m2 : decide (a.op = 0) = false := decide_eq_false hop
            refine (act_c a HAC.out HD1.out hcl 1 (by rw [if_neg hop]) _ (HW.out.below HB.out)).mono ?_
            rintro r w14 ⟨A14, k14, rfl, hO, hb⟩
            have HO14 := Aside.mk hO
            clear hO hop hcl
            replace HB := Aside.mk (HB.out.trans (hb.mono HB.out.size)); replace H4 := Aside.mk (blk_below H4.out hb); replace H5 := Aside.mk (blk_below H5.out hb); replace H12 := Aside.mk (blk_below H12.out hb); clear hb
            have H14 := Aside.mk (heap_alloc_new w14 (.cells #[.int .i64 a.thread, .int .i64 a.op, .int .i64 a.n, .slice A14 a.data.length k14] 50))
            have hb := below_alloc (Below.refl w14.heap.size w14) (.cells #[.int .i64 a.thread, .int .i64 a.op, .int .i64 a.n, .slice A14 a.data.length k14] 50)
            replace HB := Aside.mk (HB.out.trans (hb.mono HB.out.size)); replace H4 := Aside.mk (blk_below H4.out hb); replace H5 := Aside.mk (blk_below H5.out hb); replace H12 := Aside.mk (blk_below H12.out hb); replace HO14 := Aside.mk (And.intro (Kd.C_below HO14.out.1 hb) HO14.out.2); clear hb
            go_upto_region 9 with (fail)
            generalize w14.alloc (.cells #[.int .i64 a.thread, .int .i64 a.op, .int .i64 a.n, .slice A14 a.data.length k14] 50) = w15 at *
            generalize w14.heap.size = g14 at *
            obtain ⟨e0, e1, e2, e3, e4, e5⟩ := blk_cell6 H4.out
            obtain ⟨f0, f1, f2, f3, f4, f5, f6, f7⟩ := blk_cell4 H5.out
            obtain ⟨r0, r1, r2, r3, r4, r5⟩ := blk_cell6 H12.out
            go_upto_region 16 with (first | (go_at_call 31; refine (QSc.sakiaref36_Conf.calls 1000 _ _ _ _ _ A C c.up _ _ (Kd.C_below HA.out.1 HB.out) HA.out.2 (QSc.conf_l c HC.out.1 HC.out.2 HSM.out)).mono ?_; rintro e w41 ⟨rfl, hb⟩; replace HB := Aside.mk (HB.out.trans (hb.mono HB.out.size)); replace H4 := Aside.mk (blk_below H4.out hb); replace H5 := Aside.mk (blk_below H5.out hb); replace H12 := Aside.mk (blk_below H12.out hb); replace H14 := Aside.mk (blk_below H14.out hb); replace HO14 := Aside.mk (And.intro (Kd.C_below HO14.out.1 hb) HO14.out.2); clear hb; clear e0 e1 e2 e3 e4 e5 f0 f1 f2 f3 f4 f5 f6 f7 r0 r1 r2 r3 r4 r5; obtain ⟨e0, e1, e2, e3, e4, e5⟩ := blk_cell6 H4.out; obtain ⟨f0, f1, f2, f3, f4, f5, f6, f7⟩ := blk_cell4 H5.out; obtain ⟨r0, r1, r2, r3, r4, r5⟩ := blk_cell6 H12.out) | (go_at_call 34; refine (QSc.sakiaref36_Clean.calls _ _ _ B D a.data true _ (Kd.C_below HBD.out.1 HB.out) HBD.out.2 (by rw [QSc.clean_l, HCL.out])).mono ?_; rintro e w44 ⟨rfl, hb⟩; replace HB := Aside.mk (HB.out.trans (hb.mono HB.out.size)); replace H4 := Aside.mk (blk_below H4.out hb); replace H5 := Aside.mk (blk_below H5.out hb); replace H12 := Aside.mk (blk_below H12.out hb); replace H14 := Aside.mk (blk_below H14.out hb); replace HO14 := Aside.mk (And.intro (Kd.C_below HO14.out.1 hb) HO14.out.2); clear hb; clear e0 e1 e2 e3 e4 e5 f0 f1 f2 f3 f4 f5 f6 f7 r0 r1 r2 r3 r4 r5; obtain ⟨e0, e1, e2, e3, e4, e5⟩ := blk_cell6 H4.out; obtain ⟨f0, f1, f2, f3, f4, f5, f6, f7⟩ := blk_cell4 H5.out; obtain ⟨r0, r1, r2, r3, r4, r5⟩ := blk_cell6 H12.out))
            obtain ⟨u0, u1, u2, u3, u4, u5, u6, u7⟩ := blk_cell4 H14.out
            have a0x := fun o => pw_cell_below (below_alloc (Below.refl _ _) o) f0
            have a1x := fun o => pw_cell_below (below_alloc (Below.refl _ _) o) f1
            have a2x := fun o => pw_cell_below (below_alloc (Below.refl _ _) o) f2
            have a3x := fun o => pw_cell_below (below_alloc (Below.refl _ _) o) f3
            have b0x := fun o => pw_cell_below (below_alloc (Below.refl _ _) o) u0
            have b1x := fun o => pw_cell_below (below_alloc (Below.refl _ _) o) u1
            have b2x := fun o => pw_cell_below (below_alloc (Below.refl _ _) o) u2
            have b3x := fun o => pw_cell_below (below_alloc (Below.refl _ _) o) u3
            clear e0 e1 e2 e3 e4 e5 f4 f5 f6 f7 r0 r1 r2 r3 r4 r5 u4 u5 u6 u7 n1 m1 m2
            go_wp2_with fail
            refine (acts_two a A14 k14 B D _ HO14.out.1 HO14.out.2 (Kd.C_below HBD.out.1 HB.out) HBD.out.2 HD1.out).mono ?_
            rintro e w45 ⟨rfl, hb⟩
            replace HB := Aside.mk (HB.out.trans (hb.mono HB.out.size))
            clear hb f0 f1 f2 f3 u0 u1 u2 u3 a0x a1x a2x a3x b0x b1x b2x b3x
            go_wp2_with (go_at_call 28; refine (slive_ _ (HW.out.below HB.out)).mono ?_; rintro e w9 ⟨rfl, hb⟩; replace HB := Aside.mk (HB.out.trans (hb.mono HB.out.size)); clear hb)
            go_ret
            exact ⟨rfl, HB.out⟩
      · have n1 : (bs (confT c)).toList.isEmpty = false := by rw [confT_nil, decide_eq_true hvn]; rfl
        refine (conf_c c HC.out.1 HSM.out hvn _ (HW.out.below HB.out)).mono ?_
        rintro r w11 ⟨A12, k12, rfl, hO, hb⟩
        have HO12 := Aside.mk hO
        clear hO
        clear hvn
        replace HB := Aside.mk (HB.out.trans (hb.mono HB.out.size)); replace H4 := Aside.mk (blk_below H4.out hb); replace H5 := Aside.mk (blk_below H5.out hb); clear hb
        have H12 := Aside.mk (heap_alloc_new w11 (.cells #[.int .i64 c.variant, .int .i64 c.width, .int .i64 c.cap, .int .i64 c.prod, .int .u64 (c.start : Int), .slice A12 c.up.length k12] 46))
        have hb := below_alloc (Below.refl w11.heap.size w11) (.cells #[.int .i64 c.variant, .int .i64 c.width, .int .i64 c.cap, .int .i64 c.prod, .int .u64 (c.start : Int), .slice A12 c.up.length k12] 46)
        replace HB := Aside.mk (HB.out.trans (hb.mono HB.out.size)); replace H4 := Aside.mk (blk_below H4.out hb); replace H5 := Aside.mk (blk_below H5.out hb); replace HO12 := Aside.mk (And.intro (Kd.C_below HO12.out.1 hb) HO12.out.2); clear hb
        go_upto_region 8 with (fail)
        generalize w11.alloc (.cells #[.int .i64 c.variant, .int .i64 c.width, .int .i64 c.cap, .int .i64 c.prod, .int .u64 (c.start : Int), .slice A12 c.up.length k12] 46) = w12 at *
        generalize w11.heap.size = g12 at *
        obtain ⟨f0, f1, f2, f3, f4, f5, f6, f7⟩ := blk_cell4 H5.out
        go_wp2_with fail
        refine (QSc.sakiaref36_Act.calls _ _ _ B D a.data 7 _ _ (Kd.C_below HBD.out.1 HB.out) HBD.out.2 (QSc.act_l a HAC.out (by have := HD1.out; omega) 7 (by decide))).mono ?_
        rintro e w13 ⟨rfl, hb⟩
        replace HB := Aside.mk (HB.out.trans (hb.mono HB.out.size)); replace H4 := Aside.mk (blk_below H4.out hb); replace H5 := Aside.mk (blk_below H5.out hb); replace H12 := Aside.mk (blk_below H12.out hb); replace HO12 := Aside.mk (And.intro (Kd.C_below HO12.out.1 hb) HO12.out.2); clear hb
        clear f0 f1 f2 f3 f4 f5 f6 f7
        go_wp2_with fail
        cases hcl : cleanA a
        · have HCL := Aside.mk hcl
          refine (act_n a HAC.out HD1.out hcl _ (HW.out.below HB.out)).mono ?_
          rintro r w14 ⟨A14, k14, rfl, hb⟩
          clear hcl
          replace HB := Aside.mk (HB.out.trans (hb.mono HB.out.size)); replace H4 := Aside.mk (blk_below H4.out hb); replace H5 := Aside.mk (blk_below H5.out hb); replace H12 := Aside.mk (blk_below H12.out hb); replace HO12 := Aside.mk (And.intro (Kd.C_below HO12.out.1 hb) HO12.out.2); clear hb
          have H14 := Aside.mk (heap_alloc_new w14 (.cells #[.int .i64 0, .int .i64 0, .int .i64 0, .slice A14 0 k14] 50))
          have hb := below_alloc (Below.refl w14.heap.size w14) (.cells #[.int .i64 0, .int .i64 0, .int .i64 0, .slice A14 0 k14] 50)
          replace HB := Aside.mk (HB.out.trans (hb.mono HB.out.size)); replace H4 := Aside.mk (blk_below H4.out hb); replace H5 := Aside.mk (blk_below H5.out hb); replace H12 := Aside.mk (blk_below H12.out hb); replace HO12 := Aside.mk (And.intro (Kd.C_below HO12.out.1 hb) HO12.out.2); clear hb
          go_upto_region 9 with (fail)
          generalize w14.alloc (.cells #[.int .i64 0, .int .i64 0, .int .i64 0, .slice A14 0 k14] 50) = w15 at *
          generalize w14.heap.size = g14 at *
          obtain ⟨e0, e1, e2, e3, e4, e5⟩ := blk_cell6 H4.out
          obtain ⟨f0, f1, f2, f3, f4, f5, f6, f7⟩ := blk_cell4 H5.out
          obtain ⟨r0, r1, r2, r3, r4, r5⟩ := blk_cell6 H12.out
          go_wp2_with (first | (go_at_call 31; refine (QSc.sakiaref36_Conf.calls 1000 _ _ _ _ _ A C c.up _ _ (Kd.C_below HA.out.1 HB.out) HA.out.2 (QSc.conf_l c HC.out.1 HC.out.2 HSM.out)).mono ?_; rintro e w41 ⟨rfl, hb⟩; replace HB := Aside.mk (HB.out.trans (hb.mono HB.out.size)); replace H4 := Aside.mk (blk_below H4.out hb); replace H5 := Aside.mk (blk_below H5.out hb); replace H12 := Aside.mk (blk_below H12.out hb); replace H14 := Aside.mk (blk_below H14.out hb); replace HO12 := Aside.mk (And.intro (Kd.C_below HO12.out.1 hb) HO12.out.2); clear hb; clear e0 e1 e2 e3 e4 e5 f0 f1 f2 f3 f4 f5 f6 f7 r0 r1 r2 r3 r4 r5; obtain ⟨e0, e1, e2, e3, e4, e5⟩ := blk_cell6 H4.out; obtain ⟨f0, f1, f2, f3, f4, f5, f6, f7⟩ := blk_cell4 H5.out; obtain ⟨r0, r1, r2, r3, r4, r5⟩ := blk_cell6 H12.out) | (go_at_call 33; refine (QSc.sakiaref10_Same.calls 1000 _ _ _ _ _ A12 k12 c.up _ _ _ _ _ A C c.up true _ HO12.out.1 HO12.out.2 (Kd.C_below HA.out.1 HB.out) HA.out.2 (QSc.csame_refl _ _ _ _ _ c.up (by have := HSM.out.1; omega) (fun l hl => by have := HSM.out.2 l hl; omega))).mono ?_; rintro e w43 ⟨rfl, hb⟩; replace HB := Aside.mk (HB.out.trans (hb.mono HB.out.size)); replace H4 := Aside.mk (blk_below H4.out hb); replace H5 := Aside.mk (blk_below H5.out hb); replace H12 := Aside.mk (blk_below H12.out hb); replace H14 := Aside.mk (blk_below H14.out hb); replace HO12 := Aside.mk (And.intro (Kd.C_below HO12.out.1 hb) HO12.out.2); clear hb; clear e0 e1 e2 e3 e4 e5 f0 f1 f2 f3 f4 f5 f6 f7 r0 r1 r2 r3 r4 r5; obtain ⟨e0, e1, e2, e3, e4, e5⟩ := blk_cell6 H4.out; obtain ⟨f0, f1, f2, f3, f4, f5, f6, f7⟩ := blk_cell4 H5.out; obtain ⟨r0, r1, r2, r3, r4, r5⟩ := blk_cell6 H12.out) | (go_at_call 34; refine (QSc.sakiaref36_Clean.calls _ _ _ B D a.data false _ (Kd.C_below HBD.out.1 HB.out) HBD.out.2 (by rw [QSc.clean_l, HCL.out])).mono ?_; rintro e w44 ⟨rfl, hb⟩; replace HB := Aside.mk (HB.out.trans (hb.mono HB.out.size)); replace H4 := Aside.mk (blk_below H4.out hb); replace H5 := Aside.mk (blk_below H5.out hb); replace H12 := Aside.mk (blk_below H12.out hb); replace H14 := Aside.mk (blk_below H14.out hb); replace HO12 := Aside.mk (And.intro (Kd.C_below HO12.out.1 hb) HO12.out.2); clear hb; clear e0 e1 e2 e3 e4 e5 f0 f1 f2 f3 f4 f5 f6 f7 r0 r1 r2 r3 r4 r5; obtain ⟨e0, e1, e2, e3, e4, e5⟩ := blk_cell6 H4.out; obtain ⟨f0, f1, f2, f3, f4, f5, f6, f7⟩ := blk_cell4 H5.out; obtain ⟨r0, r1, r2, r3, r4, r5⟩ := blk_cell6 H12.out) | (go_at_call 28; refine (slive_ _ (HW.out.below HB.out)).mono ?_; rintro e w9 ⟨rfl, hb⟩; replace HB := Aside.mk (HB.out.trans (hb.mono HB.out.size)); clear hb))
          go_ret
          exact ⟨rfl, HB.out⟩
        · have HCL := Aside.mk hcl
          by_cases hop : a.op = 0
          · have m1 : (a.op == 0) = true := by rw [hop]; rfl
            have m2 : decide (a.op = 0) = true := decide_eq_true hop
            refine (act_c a HAC.out HD1.out hcl 7 (by rw [if_pos hop]) _ (HW.out.below HB.out)).mono ?_
            rintro r w14 ⟨A14, k14, rfl, hO, hb⟩
            have HO14 := Aside.mk hO
            clear hO hop hcl
            replace HB := Aside.mk (HB.out.trans (hb.mono HB.out.size)); replace H4 := Aside.mk (blk_below H4.out hb); replace H5 := Aside.mk (blk_below H5.out hb); replace H12 := Aside.mk (blk_below H12.out hb); replace HO12 := Aside.mk (And.intro (Kd.C_below HO12.out.1 hb) HO12.out.2); clear hb
            have H14 := Aside.mk (heap_alloc_new w14 (.cells #[.int .i64 a.thread, .int .i64 a.op, .int .i64 a.n, .slice A14 a.data.length k14] 50))
            have hb := below_alloc (Below.refl w14.heap.size w14) (.cells #[.int .i64 a.thread, .int .i64 a.op, .int .i64 a.n, .slice A14 a.data.length k14] 50)
            replace HB := Aside.mk (HB.out.trans (hb.mono HB.out.size)); replace H4 := Aside.mk (blk_below H4.out hb); replace H5 := Aside.mk (blk_below H5.out hb); replace H12 := Aside.mk (blk_below H12.out hb); replace HO12 := Aside.mk (And.intro (Kd.C_below HO12.out.1 hb) HO12.out.2); replace HO14 := Aside.mk (And.intro (Kd.C_below HO14.out.1 hb) HO14.out.2); clear hb
            go_upto_region 9 with (fail)
            generalize w14.alloc (.cells #[.int .i64 a.thread, .int .i64 a.op, .int .i64 a.n, .slice A14 a.data.length k14] 50) = w15 at *
            generalize w14.heap.size = g14 at *
            obtain ⟨e0, e1, e2, e3, e4, e5⟩ := blk_cell6 H4.out
            obtain ⟨f0, f1, f2, f3, f4, f5, f6, f7⟩ := blk_cell4 H5.out
            obtain ⟨r0, r1, r2, r3, r4, r5⟩ := blk_cell6 H12.out
            go_upto_region 16 with (first | (go_at_call 31; refine (QSc.sakiaref36_Conf.calls 1000 _ _ _ _ _ A C c.up _ _ (Kd.C_below HA.out.1 HB.out) HA.out.2 (QSc.conf_l c HC.out.1 HC.out.2 HSM.out)).mono ?_; rintro e w41 ⟨rfl, hb⟩; replace HB := Aside.mk (HB.out.trans (hb.mono HB.out.size)); replace H4 := Aside.mk (blk_below H4.out hb); replace H5 := Aside.mk (blk_below H5.out hb); replace H12 := Aside.mk (blk_below H12.out hb); replace H14 := Aside.mk (blk_below H14.out hb); replace HO12 := Aside.mk (And.intro (Kd.C_below HO12.out.1 hb) HO12.out.2); replace HO14 := Aside.mk (And.intro (Kd.C_below HO14.out.1 hb) HO14.out.2); clear hb; clear e0 e1 e2 e3 e4 e5 f0 f1 f2 f3 f4 f5 f6 f7 r0 r1 r2 r3 r4 r5; obtain ⟨e0, e1, e2, e3, e4, e5⟩ := blk_cell6 H4.out; obtain ⟨f0, f1, f2, f3, f4, f5, f6, f7⟩ := blk_cell4 H5.out; obtain ⟨r0, r1, r2, r3, r4, r5⟩ := blk_cell6 H12.out) | (go_at_call 33; refine (QSc.sakiaref10_Same.calls 1000 _ _ _ _ _ A12 k12 c.up _ _ _ _ _ A C c.up true _ HO12.out.1 HO12.out.2 (Kd.C_below HA.out.1 HB.out) HA.out.2 (QSc.csame_refl _ _ _ _ _ c.up (by have := HSM.out.1; omega) (fun l hl => by have := HSM.out.2 l hl; omega))).mono ?_; rintro e w43 ⟨rfl, hb⟩; replace HB := Aside.mk (HB.out.trans (hb.mono HB.out.size)); replace H4 := Aside.mk (blk_below H4.out hb); replace H5 := Aside.mk (blk_below H5.out hb); replace H12 := Aside.mk (blk_below H12.out hb); replace H14 := Aside.mk (blk_below H14.out hb); replace HO12 := Aside.mk (And.intro (Kd.C_below HO12.out.1 hb) HO12.out.2); replace HO14 := Aside.mk (And.intro (Kd.C_below HO14.out.1 hb) HO14.out.2); clear hb; clear e0 e1 e2 e3 e4 e5 f0 f1 f2 f3 f4 f5 f6 f7 r0 r1 r2 r3 r4 r5; obtain ⟨e0, e1, e2, e3, e4, e5⟩ := blk_cell6 H4.out; obtain ⟨f0, f1, f2, f3, f4, f5, f6, f7⟩ := blk_cell4 H5.out; obtain ⟨r0, r1, r2, r3, r4, r5⟩ := blk_cell6 H12.out) | (go_at_call 34; refine (QSc.sakiaref36_Clean.calls _ _ _ B D a.data true _ (Kd.C_below HBD.out.1 HB.out) HBD.out.2 (by rw [QSc.clean_l, HCL.out])).mono ?_; rintro e w44 ⟨rfl, hb⟩; replace HB := Aside.mk (HB.out.trans (hb.mono HB.out.size)); replace H4 := Aside.mk (blk_below H4.out hb); replace H5 := Aside.mk (blk_below H5.out hb); replace H12 := Aside.mk (blk_below H12.out hb); replace H14 := Aside.mk (blk_below H14.out hb); replace HO12 := Aside.mk (And.intro (Kd.C_below HO12.out.1 hb) HO12.out.2); replace HO14 := Aside.mk (And.intro (Kd.C_below HO14.out.1 hb) HO14.out.2); clear hb; clear e0 e1 e2 e3 e4 e5 f0 f1 f2 f3 f4 f5 f6 f7 r0 r1 r2 r3 r4 r5; obtain ⟨e0, e1, e2, e3, e4, e5⟩ := blk_cell6 H4.out; obtain ⟨f0, f1, f2, f3, f4, f5, f6, f7⟩ := blk_cell4 H5.out; obtain ⟨r0, r1, r2, r3, r4, r5⟩ := blk_cell6 H12.out))
            obtain ⟨u0, u1, u2, u3, u4, u5, u6, u7⟩ := blk_cell4 H14.out
            have a0x := fun o => pw_cell_below (below_alloc (Below.refl _ _) o) f0
            have a1x := fun o => pw_cell_below (below_alloc (Below.refl _ _) o) f1
            have a2x := fun o => pw_cell_below (below_alloc (Below.refl _ _) o) f2
            have a3x := fun o => pw_cell_below (below_alloc (Below.refl _ _) o) f3
            have b0x := fun o => pw_cell_below (below_alloc (Below.refl _ _) o) u0
            have b1x := fun o => pw_cell_below (below_alloc (Below.refl _ _) o) u1
            have b2x := fun o => pw_cell_below (below_alloc (Below.refl _ _) o) u2
            have b3x := fun o => pw_cell_below (below_alloc (Below.refl _ _) o) u3
            clear e0 e1 e2 e3 e4 e5 f4 f5 f6 f7 r0 r1 r2 r3 r4 r5 u4 u5 u6 u7 n1 m1 m2
            go_wp2_with fail
            refine (acts_two a A14 k14 B D _ HO14.out.1 HO14.out.2 (Kd.C_below HBD.out.1 HB.out) HBD.out.2 HD1.out).mono ?_
            rintro e w45 ⟨rfl, hb⟩
            replace HB := Aside.mk (HB.out.trans (hb.mono HB.out.size))
            clear hb f0 f1 f2 f3 u0 u1 u2 u3 a0x a1x a2x a3x b0x b1x b2x b3x
            go_wp2_with (go_at_call 28; refine (slive_ _ (HW.out.below HB.out)).mono ?_; rintro e w9 ⟨rfl, hb⟩; replace HB := Aside.mk (HB.out.trans (hb.mono HB.out.size)); clear hb)
            go_ret
            exact ⟨rfl, HB.out⟩
          · have m1 : (a.op == 0) = false := by simpa using hop
            have m2 : decide (a.op = 0) = false := decide_eq_false hop
            refine (act_c a HAC.out HD1.out hcl 1 (by rw [if_neg hop]) _ (HW.out.below HB.out)).mono ?_
            rintro r w14 ⟨A14, k14, rfl, hO, hb⟩
            have HO14 := Aside.mk hO
            clear hO hop hcl
            replace HB := Aside.mk (HB.out.trans (hb.mono HB.out.size)); replace H4 := Aside.mk (blk_below H4.out hb); replace H5 := Aside.mk (blk_below H5.out hb); replace H12 := Aside.mk (blk_below H12.out hb); replace HO12 := Aside.mk (And.intro (Kd.C_below HO12.out.1 hb) HO12.out.2); clear hb
            have H14 := Aside.mk (heap_alloc_new w14 (.cells #[.int .i64 a.thread, .int .i64 a.op, .int .i64 a.n, .slice A14 a.data.length k14] 50))
            have hb := below_alloc (Below.refl w14.heap.size w14) (.cells #[.int .i64 a.thread, .int .i64 a.op, .int .i64 a.n, .slice A14 a.data.length k14] 50)
            replace HB := Aside.mk (HB.out.trans (hb.mono HB.out.size)); replace H4 := Aside.mk (blk_below H4.out hb); replace H5 := Aside.mk (blk_below H5.out hb); replace H12 := Aside.mk (blk_below H12.out hb); replace HO12 := Aside.mk (And.intro (Kd.C_below HO12.out.1 hb) HO12.out.2); replace HO14 := Aside.mk (And.intro (Kd.C_below HO14.out.1 hb) HO14.out.2); clear hb
            go_upto_region 9 with (fail)
            generalize w14.alloc (.cells #[.int .i64 a.thread, .int .i64 a.op, .int .i64 a.n, .slice A14 a.data.length k14] 50) = w15 at *
            generalize w14.heap.size = g14 at *
            obtain ⟨e0, e1, e2, e3, e4, e5⟩ := blk_cell6 H4.out
            obtain ⟨f0, f1, f2, f3, f4, f5, f6, f7⟩ := blk_cell4 H5.out
            obtain ⟨r0, r1, r2, r3, r4, r5⟩ := blk_cell6 H12.out
            go_upto_region 16 with (first | (go_at_call 31; refine (QSc.sakiaref36_Conf.calls 1000 _ _ _ _ _ A C c.up _ _ (Kd.C_below HA.out.1 HB.out) HA.out.2 (QSc.conf_l c HC.out.1 HC.out.2 HSM.out)).mono ?_; rintro e w41 ⟨rfl, hb⟩; replace HB := Aside.mk (HB.out.trans (hb.mono HB.out.size)); replace H4 := Aside.mk (blk_below H4.out hb); replace H5 := Aside.mk (blk_below H5.out hb); replace H12 := Aside.mk (blk_below H12.out hb); replace H14 := Aside.mk (blk_below H14.out hb); replace HO12 := Aside.mk (And.intro (Kd.C_below HO12.out.1 hb) HO12.out.2); replace HO14 := Aside.mk (And.intro (Kd.C_below HO14.out.1 hb) HO14.out.2); clear hb; clear e0 e1 e2 e3 e4 e5 f0 f1 f2 f3 f4 f5 f6 f7 r0 r1 r2 r3 r4 r5; obtain ⟨e0, e1, e2, e3, e4, e5⟩ := blk_cell6 H4.out; obtain ⟨f0, f1, f2, f3, f4, f5, f6, f7⟩ := blk_cell4 H5.out; obtain ⟨r0, r1, r2, r3, r4, r5⟩ := blk_cell6 H12.out) | (go_at_call 33; refine (QSc.sakiaref10_Same.calls 1000 _ _ _ _ _ A12 k12 c.up _ _ _ _ _ A C c.up true _ HO12.out.1 HO12.out.2 (Kd.C_below HA.out.1 HB.out) HA.out.2 (QSc.csame_refl _ _ _ _ _ c.up (by have := HSM.out.1; omega) (fun l hl => by have := HSM.out.2 l hl; omega))).mono ?_; rintro e w43 ⟨rfl, hb⟩; replace HB := Aside.mk (HB.out.trans (hb.mono HB.out.size)); replace H4 := Aside.mk (blk_below H4.out hb); replace H5 := Aside.mk (blk_below H5.out hb); replace H12 := Aside.mk (blk_below H12.out hb); replace H14 := Aside.mk (blk_below H14.out hb); replace HO12 := Aside.mk (And.intro (Kd.C_below HO12.out.1 hb) HO12.out.2); replace HO14 := Aside.mk (And.intro (Kd.C_below HO14.out.1 hb) HO14.out.2); clear hb; clear e0 e1 e2 e3 e4 e5 f0 f1 f2 f3 f4 f5 f6 f7 r0 r1 r2 r3 r4 r5; obtain ⟨e0, e1, e2, e3, e4, e5⟩ := blk_cell6 H4.out; obtain ⟨f0, f1, f2, f3, f4, f5, f6, f7⟩ := blk_cell4 H5.out; obtain ⟨r0, r1, r2, r3, r4, r5⟩ := blk_cell6 H12.out) | (go_at_call 34; refine (QSc.sakiaref36_Clean.calls _ _ _ B D a.data true _ (Kd.C_below HBD.out.1 HB.out) HBD.out.2 (by rw [QSc.clean_l, HCL.out])).mono ?_; rintro e w44 ⟨rfl, hb⟩; replace HB := Aside.mk (HB.out.trans (hb.mono HB.out.size)); replace H4 := Aside.mk (blk_below H4.out hb); replace H5 := Aside.mk (blk_below H5.out hb); replace H12 := Aside.mk (blk_below H12.out hb); replace H14 := Aside.mk (blk_below H14.out hb); replace HO12 := Aside.mk (And.intro (Kd.C_below HO12.out.1 hb) HO12.out.2); replace HO14 := Aside.mk (And.intro (Kd.C_below HO14.out.1 hb) HO14.out.2); clear hb; clear e0 e1 e2 e3 e4 e5 f0 f1 f2 f3 f4 f5 f6 f7 r0 r1 r2 r3 r4 r5; obtain ⟨e0, e1, e2, e3, e4, e5⟩ := blk_cell6 H4.out; obtain ⟨f0, f1, f2, f3, f4, f5, f6, f7⟩ := blk_cell4 H5.out; obtain ⟨r0, r1, r2, r3, r4, r5⟩ := blk_cell6 H12.out))
            obtain ⟨u0, u1, u2, u3, u4, u5, u6, u7⟩ := blk_cell4 H14.out
            have a0x := fun o => pw_cell_below (below_alloc (Below.refl _ _) o) f0
            have a1x := fun o => pw_cell_below (below_alloc (Below.refl _ _) o) f1
            have a2x := fun o => pw_cell_below (below_alloc (Below.refl _ _) o) f2
            have a3x := fun o => pw_cell_below (below_alloc (Below.refl _ _) o) f3
            have b0x := fun o => pw_cell_below (below_alloc (Below.refl _ _) o) u0
            have b1x := fun o => pw_cell_below (below_alloc (Below.refl _ _) o) u1
            have b2x := fun o => pw_cell_below (below_alloc (Below.refl _ _) o) u2
            have b3x := fun o => pw_cell_below (below_alloc (Below.refl _ _) o) u3
            clear e0 e1 e2 e3 e4 e5 f4 f5 f6 f7 r0 r1 r2 r3 r4 r5 u4 u5 u6 u7 n1 m1 m2
            go_wp2_with fail
            refine (acts_two a A14 k14 B D _ HO14.out.1 HO14.out.2 (Kd.C_below HBD.out.1 HB.out) HBD.out.2 HD1.out).mono ?_
            rintro e w45 ⟨rfl, hb⟩
            replace HB := Aside.mk (HB.out.trans (hb.mono HB.out.size))
            clear hb f0 f1 f2 f3 u0 u1 u2 u3 a0x a1x a2x a3x b0x b1x b2x b3x
            go_wp2_with (go_at_call 28; refine (slive_ _ (HW.out.below HB.out)).mono ?_; rintro e w9 ⟨rfl, hb⟩; replace HB := Aside.mk (HB.out.trans (hb.mono HB.out.size)); clear hb)
            go_ret
            exact ⟨rfl, HB.out⟩
    · have HRC := Aside.mk hrc
      have y3 : cntA s = 0 := (resA_no hra).2
      rw [y3]
      clear y3
      clear hrc hra
      go_upto_region 7 with ((go_at_call 31; refine (confback_ s HRC.out A7 c7 _ HO.out.1 HO.out.2 HS3.out).mono ?_; rintro e w31 ⟨rfl, hb⟩; replace HB := Aside.mk (HB.out.trans (hb.mono HB.out.size)); replace H4 := Aside.mk (blk_below H4.out hb); replace H5 := Aside.mk (blk_below H5.out hb); replace H9 := Aside.mk (blk_below H9.out hb); replace HN := Aside.mk (And.intro (Kd.C_below HN.out.1 hb) HN.out.2); clear hb p0 p1 p2 p3 p4 p5 q0 q1 q2 q3 q4 q5 q6 q7; obtain ⟨q0, q1, q2, q3, q4, q5, q6, q7⟩ := blk_cell4 H9.out))
      obtain ⟨e0, e1, e2, e3, e4, e5⟩ := blk_cell6 H4.out
      go_wp2_with fail
      refine (QSc.sakiaref36_Conf.calls 1000 _ _ _ _ _ A C c.up _ _ (Kd.C_below HA.out.1 HB.out) HA.out.2 (QSc.conf_l c HC.out.1 HC.out.2 HSM.out)).mono ?_
      rintro e w10 ⟨rfl, hb⟩
      replace HB := Aside.mk (HB.out.trans (hb.mono HB.out.size)); replace H4 := Aside.mk (blk_below H4.out hb); replace H5 := Aside.mk (blk_below H5.out hb); clear hb
      clear e0 e1 e2 e3 e4 e5
      go_wp2_with fail
      by_cases hvn : varT c.variant = []
      · have n1 : (bs (confT c)).toList.isEmpty = true := by rw [confT_nil, decide_eq_false (by simpa using hvn)]; rfl
        refine (conf_n c HC.out.1 HSM.out hvn _ (HW.out.below HB.out)).mono ?_
        rintro r w11 ⟨A12, k12, rfl, hb⟩
        clear hvn
        replace HB := Aside.mk (HB.out.trans (hb.mono HB.out.size)); replace H4 := Aside.mk (blk_below H4.out hb); replace H5 := Aside.mk (blk_below H5.out hb); clear hb
        have H12 := Aside.mk (heap_alloc_new w11 (.cells #[.int .i64 0, .int .i64 0, .int .i64 0, .int .i64 0, .int .u64 0, .slice A12 0 k12] 46))
        have hb := below_alloc (Below.refl w11.heap.size w11) (.cells #[.int .i64 0, .int .i64 0, .int .i64 0, .int .i64 0, .int .u64 0, .slice A12 0 k12] 46)
        replace HB := Aside.mk (HB.out.trans (hb.mono HB.out.size)); replace H4 := Aside.mk (blk_below H4.out hb); replace H5 := Aside.mk (blk_below H5.out hb); clear hb
        go_upto_region 8 with (fail)
        generalize w11.alloc (.cells #[.int .i64 0, .int .i64 0, .int .i64 0, .int .i64 0, .int .u64 0, .slice A12 0 k12] 46) = w12 at *
        generalize w11.heap.size = g12 at *
        obtain ⟨f0, f1, f2, f3, f4, f5, f6, f7⟩ := blk_cell4 H5.out
        go_wp2_with fail
        refine (QSc.sakiaref36_Act.calls _ _ _ B D a.data 7 _ _ (Kd.C_below HBD.out.1 HB.out) HBD.out.2 (QSc.act_l a HAC.out (by have := HD1.out; omega) 7 (by decide))).mono ?_
        rintro e w13 ⟨rfl, hb⟩
        replace HB := Aside.mk (HB.out.trans (hb.mono HB.out.size)); replace H4 := Aside.mk (blk_below H4.out hb); replace H5 := Aside.mk (blk_below H5.out hb); replace H12 := Aside.mk (blk_below H12.out hb); clear hb
        clear f0 f1 f2 f3 f4 f5 f6 f7
        go_wp2_with fail
        cases hcl : cleanA a
        · have HCL := Aside.mk hcl
          refine (act_n a HAC.out HD1.out hcl _ (HW.out.below HB.out)).mono ?_
          rintro r w14 ⟨A14, k14, rfl, hb⟩
          clear hcl
          replace HB := Aside.mk (HB.out.trans (hb.mono HB.out.size)); replace H4 := Aside.mk (blk_below H4.out hb); replace H5 := Aside.mk (blk_below H5.out hb); replace H12 := Aside.mk (blk_below H12.out hb); clear hb
          have H14 := Aside.mk (heap_alloc_new w14 (.cells #[.int .i64 0, .int .i64 0, .int .i64 0, .slice A14 0 k14] 50))
          have hb := below_alloc (Below.refl w14.heap.size w14) (.cells #[.int .i64 0, .int .i64 0, .int .i64 0, .slice A14 0 k14] 50)
          replace HB := Aside.mk (HB.out.trans (hb.mono HB.out.size)); replace H4 := Aside.mk (blk_below H4.out hb); replace H5 := Aside.mk (blk_below H5.out hb); replace H12 := Aside.mk (blk_below H12.out hb); clear hb
          go_upto_region 9 with (fail)
          generalize w14.alloc (.cells #[.int .i64 0, .int .i64 0, .int .i64 0, .slice A14 0 k14] 50) = w15 at *
          generalize w14.heap.size = g14 at *
          obtain ⟨e0, e1, e2, e3, e4, e5⟩ := blk_cell6 H4.out
          obtain ⟨f0, f1, f2, f3, f4, f5, f6, f7⟩ := blk_cell4 H5.out
          obtain ⟨r0, r1, r2, r3, r4, r5⟩ := blk_cell6 H12.out
          go_wp2_with (first | (go_at_call 31; refine (QSc.sakiaref36_Conf.calls 1000 _ _ _ _ _ A C c.up _ _ (Kd.C_below HA.out.1 HB.out) HA.out.2 (QSc.conf_l c HC.out.1 HC.out.2 HSM.out)).mono ?_; rintro e w41 ⟨rfl, hb⟩; replace HB := Aside.mk (HB.out.trans (hb.mono HB.out.size)); replace H4 := Aside.mk (blk_below H4.out hb); replace H5 := Aside.mk (blk_below H5.out hb); replace H12 := Aside.mk (blk_below H12.out hb); replace H14 := Aside.mk (blk_below H14.out hb); clear hb; clear e0 e1 e2 e3 e4 e5 f0 f1 f2 f3 f4 f5 f6 f7 r0 r1 r2 r3 r4 r5; obtain ⟨e0, e1, e2, e3, e4, e5⟩ := blk_cell6 H4.out; obtain ⟨f0, f1, f2, f3, f4, f5, f6, f7⟩ := blk_cell4 H5.out; obtain ⟨r0, r1, r2, r3, r4, r5⟩ := blk_cell6 H12.out) | (go_at_call 34; refine (QSc.sakiaref36_Clean.calls _ _ _ B D a.data false _ (Kd.C_below HBD.out.1 HB.out) HBD.out.2 (by rw [QSc.clean_l, HCL.out])).mono ?_; rintro e w44 ⟨rfl, hb⟩; replace HB := Aside.mk (HB.out.trans (hb.mono HB.out.size)); replace H4 := Aside.mk (blk_below H4.out hb); replace H5 := Aside.mk (blk_below H5.out hb); replace H12 := Aside.mk (blk_below H12.out hb); replace H14 := Aside.mk (blk_below H14.out hb); clear hb; clear e0 e1 e2 e3 e4 e5 f0 f1 f2 f3 f4 f5 f6 f7 r0 r1 r2 r3 r4 r5; obtain ⟨e0, e1, e2, e3, e4, e5⟩ := blk_cell6 H4.out; obtain ⟨f0, f1, f2, f3, f4, f5, f6, f7⟩ := blk_cell4 H5.out; obtain ⟨r0, r1, r2, r3, r4, r5⟩ := blk_cell6 H12.out) | (go_at_call 28; refine (slive_ _ (HW.out.below HB.out)).mono ?_; rintro e w9 ⟨rfl, hb⟩; replace HB := Aside.mk (HB.out.trans (hb.mono HB.out.size)); clear hb))
          go_ret
          exact ⟨rfl, HB.out⟩
        · have HCL := Aside.mk hcl
          by_cases hop : a.op = 0
          · have m1 : (a.op == 0) = true := by rw [hop]; rfl
            have m2 : decide (a.op = 0) = true := decide_eq_true hop
            refine (act_c a HAC.out HD1.out hcl 7 (by rw [if_pos hop]) _ (HW.out.below HB.out)).mono ?_
            rintro r w14 ⟨A14, k14, rfl, hO, hb⟩
            have HO14 := Aside.mk hO
            clear hO hop hcl
            replace HB := Aside.mk (HB.out.trans (hb.mono HB.out.size)); replace H4 := Aside.mk (blk_below H4.out hb); replace H5 := Aside.mk (blk_below H5.out hb); replace H12 := Aside.mk (blk_below H12.out hb); clear hb
            have H14 := Aside.mk (heap_alloc_new w14 (.cells #[.int .i64 a.thread, .int .i64 a.op, .int .i64 a.n, .slice A14 a.data.length k14] 50))
            have hb := below_alloc (Below.refl w14.heap.size w14) (.cells #[.int .i64 a.thread, .int .i64 a.op, .int .i64 a.n, .slice A14 a.data.length k14] 50)
            replace HB := Aside.mk (HB.out.trans (hb.mono HB.out.size)); replace H4 := Aside.mk (blk_below H4.out hb); replace H5 := Aside.mk (blk_below H5.out hb); replace H12 := Aside.mk (blk_below H12.out hb); replace HO14 := Aside.mk (And.intro (Kd.C_below HO14.out.1 hb) HO14.out.2); clear hb
            go_upto_region 9 with (fail)
            generalize w14.alloc (.cells #[.int .i64 a.thread, .int .i64 a.op, .int .i64 a.n, .slice A14 a.data.length k14] 50) = w15 at *
            generalize w14.heap.size = g14 at *
            obtain ⟨e0, e1, e2, e3, e4, e5⟩ := blk_cell6 H4.out
            obtain ⟨f0, f1, f2, f3, f4, f5, f6, f7⟩ := blk_cell4 H5.out
            obtain ⟨r0, r1, r2, r3, r4, r5⟩ := blk_cell6 H12.out
            go_upto_region 16 with (first | (go_at_call 31; refine (QSc.sakiaref36_Conf.calls 1000 _ _ _ _ _ A C c.up _ _ (Kd.C_below HA.out.1 HB.out) HA.out.2 (QSc.conf_l c HC.out.1 HC.out.2 HSM.out)).mono ?_; rintro e w41 ⟨rfl, hb⟩; replace HB := Aside.mk (HB.out.trans (hb.mono HB.out.size)); replace H4 := Aside.mk (blk_below H4.out hb); replace H5 := Aside.mk (blk_below H5.out hb); replace H12 := Aside.mk (blk_below H12.out hb); replace H14 := Aside.mk (blk_below H14.out hb); replace HO14 := Aside.mk (And.intro (Kd.C_below HO14.out.1 hb) HO14.out.2); clear hb; clear e0 e1 e2 e3 e4 e5 f0 f1 f2 f3 f4 f5 f6 f7 r0 r1 r2 r3 r4 r5; obtain ⟨e0, e1, e2, e3, e4, e5⟩ := blk_cell6 H4.out; obtain ⟨f0, f1, f2, f3, f4, f5, f6, f7⟩ := blk_cell4 H5.out; obtain ⟨r0, r1, r2, r3, r4, r5⟩ := blk_cell6 H12.out) | (go_at_call 34; refine (QSc.sakiaref36_Clean.calls _ _ _ B D a.data true _ (Kd.C_below HBD.out.1 HB.out) HBD.out.2 (by rw [QSc.clean_l, HCL.out])).mono ?_; rintro e w44 ⟨rfl, hb⟩; replace HB := Aside.mk (HB.out.trans (hb.mono HB.out.size)); replace H4 := Aside.mk (blk_below H4.out hb); replace H5 := Aside.mk (blk_below H5.out hb); replace H12 := Aside.mk (blk_below H12.out hb); replace H14 := Aside.mk (blk_below H14.out hb); replace HO14 := Aside.mk (And.intro (Kd.C_below HO14.out.1 hb) HO14.out.2); clear hb; clear e0 e1 e2 e3 e4 e5 f0 f1 f2 f3 f4 f5 f6 f7 r0 r1 r2 r3 r4 r5; obtain ⟨e0, e1, e2, e3, e4, e5⟩ := blk_cell6 H4.out; obtain ⟨f0, f1, f2, f3, f4, f5, f6, f7⟩ := blk_cell4 H5.out; obtain ⟨r0, r1, r2, r3, r4, r5⟩ := blk_cell6 H12.out))
            obtain ⟨u0, u1, u2, u3, u4, u5, u6, u7⟩ := blk_cell4 H14.out
            have a0x := fun o => pw_cell_below (below_alloc (Below.refl _ _) o) f0
            have a1x := fun o => pw_cell_below (below_alloc (Below.refl _ _) o) f1
            have a2x := fun o => pw_cell_below (below_alloc (Below.refl _ _) o) f2
            have a3x := fun o => pw_cell_below (below_alloc (Below.refl _ _) o) f3
            have b0x := fun o => pw_cell_below (below_alloc (Below.refl _ _) o) u0
            have b1x := fun o => pw_cell_below (below_alloc (Below.refl _ _) o) u1
            have b2x := fun o => pw_cell_below (below_alloc (Below.refl _ _) o) u2
            have b3x := fun o => pw_cell_below (below_alloc (Below.refl _ _) o) u3
            clear e0 e1 e2 e3 e4 e5 f4 f5 f6 f7 r0 r1 r2 r3 r4 r5 u4 u5 u6 u7 n1 m1 m2
            go_wp2_with fail
            refine (acts_two a A14 k14 B D _ HO14.out.1 HO14.out.2 (Kd.C_below HBD.out.1 HB.out) HBD.out.2 HD1.out).mono ?_
            rintro e w45 ⟨rfl, hb⟩
            replace HB := Aside.mk (HB.out.trans (hb.mono HB.out.size))
            clear hb f0 f1 f2 f3 u0 u1 u2 u3 a0x a1x a2x a3x b0x b1x b2x b3x
            go_wp2_with (go_at_call 28; refine (slive_ _ (HW.out.below HB.out)).mono ?_; rintro e w9 ⟨rfl, hb⟩; replace HB := Aside.mk (HB.out.trans (hb.mono HB.out.size)); clear hb)
            go_ret
            exact ⟨rfl, HB.out⟩
          · have m1 : (a.op == 0) = false := by simpa using hop
            have m2 : decide (a.op = 0) = false := decide_eq_false hop
            refine (act_c a HAC.out HD1.out hcl 1 (by rw [if_neg hop]) _ (HW.out.below HB.out)).mono ?_
            rintro r w14 ⟨A14, k14, rfl, hO, hb⟩
            have HO14 := Aside.mk hO
            clear hO hop hcl
            replace HB := Aside.mk (HB.out.trans (hb.mono HB.out.size)); replace H4 := Aside.mk (blk_below H4.out hb); replace H5 := Aside.mk (blk_below H5.out hb); replace H12 := Aside.mk (blk_below H12.out hb); clear hb
            have H14 := Aside.mk (heap_alloc_new w14 (.cells #[.int .i64 a.thread, .int .i64 a.op, .int .i64 a.n, .slice A14 a.data.length k14] 50))
            have hb := below_alloc (Below.refl w14.heap.size w14) (.cells #[.int .i64 a.thread, .int .i64 a.op, .int .i64 a.n, .slice A14 a.data.length k14] 50)
            replace HB := Aside.mk (HB.out.trans (hb.mono HB.out.size)); replace H4 := Aside.mk (blk_below H4.out hb); replace H5 := Aside.mk (blk_below H5.out hb); replace H12 := Aside.mk (blk_below H12.out hb); replace HO14 := Aside.mk (And.intro (Kd.C_below HO14.out.1 hb) HO14.out.2); clear hb
            go_upto_region 9 with (fail)
            generalize w14.alloc (.cells #[.int .i64 a.thread, .int .i64 a.op, .int .i64 a.n, .slice A14 a.data.length k14] 50) = w15 at *
            generalize w14.heap.size = g14 at *
            obtain ⟨e0, e1, e2, e3, e4, e5⟩ := blk_cell6 H4.out
            obtain ⟨f0, f1, f2, f3, f4, f5, f6, f7⟩ := blk_cell4 H5.out
            obtain ⟨r0, r1, r2, r3, r4, r5⟩ := blk_cell6 H12.out
            go_upto_region 16 with (first | (go_at_call 31; refine (QSc.sakiaref36_Conf.calls 1000 _ _ _ _ _ A C c.up _ _ (Kd.C_below HA.out.1 HB.out) HA.out.2 (QSc.conf_l c HC.out.1 HC.out.2 HSM.out)).mono ?_; rintro e w41 ⟨rfl, hb⟩; replace HB := Aside.mk (HB.out.trans (hb.mono HB.out.size)); replace H4 := Aside.mk (blk_below H4.out hb); replace H5 := Aside.mk (blk_below H5.out hb); replace H12 := Aside.mk (blk_below H12.out hb); replace H14 := Aside.mk (blk_below H14.out hb); replace HO14 := Aside.mk (And.intro (Kd.C_below HO14.out.1 hb) HO14.out.2); clear hb; clear e0 e1 e2 e3 e4 e5 f0 f1 f2 f3 f4 f5 f6 f7 r0 r1 r2 r3 r4 r5; obtain ⟨e0, e1, e2, e3, e4, e5⟩ := blk_cell6 H4.out; obtain ⟨f0, f1, f2, f3, f4, f5, f6, f7⟩ := blk_cell4 H5.out; obtain ⟨r0, r1, r2, r3, r4, r5⟩ := blk_cell6 H12.out) | (go_at_call 34; refine (QSc.sakiaref36_Clean.calls _ _ _ B D a.data true _ (Kd.C_below HBD.out.1 HB.out) HBD.out.2 (by rw [QSc.clean_l, HCL.out])).mono ?_; rintro e w44 ⟨rfl, hb⟩; replace HB := Aside.mk (HB.out.trans (hb.mono HB.out.size)); replace H4 := Aside.mk (blk_below H4.out hb); replace H5 := Aside.mk (blk_below H5.out hb); replace H12 := Aside.mk (blk_below H12.out hb); replace H14 := Aside.mk (blk_below H14.out hb); replace HO14 := Aside.mk (And.intro (Kd.C_below HO14.out.1 hb) HO14.out.2); clear hb; clear e0 e1 e2 e3 e4 e5 f0 f1 f2 f3 f4 f5 f6 f7 r0 r1 r2 r3 r4 r5; obtain ⟨e0, e1, e2, e3, e4, e5⟩ := blk_cell6 H4.out; obtain ⟨f0, f1, f2, f3, f4, f5, f6, f7⟩ := blk_cell4 H5.out; obtain ⟨r0, r1, r2, r3, r4, r5⟩ := blk_cell6 H12.out))
            obtain ⟨u0, u1, u2, u3, u4, u5, u6, u7⟩ := blk_cell4 H14.out
            have a0x := fun o => pw_cell_below (below_alloc (Below.refl _ _) o) f0
            have a1x := fun o => pw_cell_below (below_alloc (Below.refl _ _) o) f1
            have a2x := fun o => pw_cell_below (below_alloc (Below.refl _ _) o) f2
            have a3x := fun o => pw_cell_below (below_alloc (Below.refl _ _) o) f3
            have b0x := fun o => pw_cell_below (below_alloc (Below.refl _ _) o) u0
            have b1x := fun o => pw_cell_below (below_alloc (Below.refl _ _) o) u1
            have b2x := fun o => pw_cell_below (below_alloc (Below.refl _ _) o) u2
            have b3x := fun o => pw_cell_below (below_alloc (Below.refl _ _) o) u3
            clear e0 e1 e2 e3 e4 e5 f4 f5 f6 f7 r0 r1 r2 r3 r4 r5 u4 u5 u6 u7 n1 m1 m2
            go_wp2_with fail
            refine (acts_two a A14 k14 B D _ HO14.out.1 HO14.out.2 (Kd.C_below HBD.out.1 HB.out) HBD.out.2 HD1.out).mono ?_
            rintro e w45 ⟨rfl, hb⟩
            replace HB := Aside.mk (HB.out.trans (hb.mono HB.out.size))
            clear hb f0 f1 f2 f3 u0 u1 u2 u3 a0x a1x a2x a3x b0x b1x b2x b3x
            go_wp2_with (go_at_call 28; refine (slive_ _ (HW.out.below HB.out)).mono ?_; rintro e w9 ⟨rfl, hb⟩; replace HB := Aside.mk (HB.out.trans (hb.mono HB.out.size)); clear hb)
            go_ret
            exact ⟨rfl, HB.out⟩
      · have n1 : (bs (confT c)).toList.isEmpty = false := by rw [confT_nil, decide_eq_true hvn]; rfl
        refine (conf_c c HC.out.1 HSM.out hvn _ (HW.out.below HB.out)).mono ?_
        rintro r w11 ⟨A12, k12, rfl, hO, hb⟩
        have HO12 := Aside.mk hO
        clear hO
        clear hvn
        replace HB := Aside.mk (HB.out.trans (hb.mono HB.out.size)); replace H4 := Aside.mk (blk_below H4.out hb); replace H5 := Aside.mk (blk_below H5.out hb); clear hb
        have H12 := Aside.mk (heap_alloc_new w11 (.cells #[.int .i64 c.variant, .int .i64 c.width, .int .i64 c.cap, .int .i64 c.prod, .int .u64 (c.start : Int), .slice A12 c.up.length k12] 46))
        have hb := below_alloc (Below.refl w11.heap.size w11) (.cells #[.int .i64 c.variant, .int .i64 c.width, .int .i64 c.cap, .int .i64 c.prod, .int .u64 (c.start : Int), .slice A12 c.up.length k12] 46)
        replace HB := Aside.mk (HB.out.trans (hb.mono HB.out.size)); replace H4 := Aside.mk (blk_below H4.out hb); replace H5 := Aside.mk (blk_below H5.out hb); replace HO12 := Aside.mk (And.intro (Kd.C_below HO12.out.1 hb) HO12.out.2); clear hb
        go_upto_region 8 with (fail)
        generalize w11.alloc (.cells #[.int .i64 c.variant, .int .i64 c.width, .int .i64 c.cap, .int .i64 c.prod, .int .u64 (c.start : Int), .slice A12 c.up.length k12] 46) = w12 at *
        generalize w11.heap.size = g12 at *
        obtain ⟨f0, f1, f2, f3, f4, f5, f6, f7⟩ := blk_cell4 H5.out
        go_wp2_with fail
        refine (QSc.sakiaref36_Act.calls _ _ _ B D a.data 7 _ _ (Kd.C_below HBD.out.1 HB.out) HBD.out.2 (QSc.act_l a HAC.out (by have := HD1.out; omega) 7 (by decide))).mono ?_
        rintro e w13 ⟨rfl, hb⟩
        replace HB := Aside.mk (HB.out.trans (hb.mono HB.out.size)); replace H4 := Aside.mk (blk_below H4.out hb); replace H5 := Aside.mk (blk_below H5.out hb); replace H12 := Aside.mk (blk_below H12.out hb); replace HO12 := Aside.mk (And.intro (Kd.C_below HO12.out.1 hb) HO12.out.2); clear hb
        clear f0 f1 f2 f3 f4 f5 f6 f7
        go_wp2_with fail
        cases hcl : cleanA a
        · have HCL := Aside.mk hcl
          refine (act_n a HAC.out HD1.out hcl _ (HW.out.below HB.out)).mono ?_
          rintro r w14 ⟨A14, k14, rfl, hb⟩
          clear hcl
          replace HB := Aside.mk (HB.out.trans (hb.mono HB.out.size)); replace H4 := Aside.mk (blk_below H4.out hb); replace H5 := Aside.mk (blk_below H5.out hb); replace H12 := Aside.mk (blk_below H12.out hb); replace HO12 := Aside.mk (And.intro (Kd.C_below HO12.out.1 hb) HO12.out.2); clear hb
          have H14 := Aside.mk (heap_alloc_new w14 (.cells #[.int .i64 0, .int .i64 0, .int .i64 0, .slice A14 0 k14] 50))
          have hb := below_alloc (Below.refl w14.heap.size w14) (.cells #[.int .i64 0, .int .i64 0, .int .i64 0, .slice A14 0 k14] 50)
          replace HB := Aside.mk (HB.out.trans (hb.mono HB.out.size)); replace H4 := Aside.mk (blk_below H4.out hb); replace H5 := Aside.mk (blk_below H5.out hb); replace H12 := Aside.mk (blk_below H12.out hb); replace HO12 := Aside.mk (And.intro (Kd.C_below HO12.out.1 hb) HO12.out.2); clear hb
          go_upto_region 9 with (fail)
          generalize w14.alloc (.cells #[.int .i64 0, .int .i64 0, .int .i64 0, .slice A14 0 k14] 50) = w15 at *
          generalize w14.heap.size = g14 at *
          obtain ⟨e0, e1, e2, e3, e4, e5⟩ := blk_cell6 H4.out
          obtain ⟨f0, f1, f2, f3, f4, f5, f6, f7⟩ := blk_cell4 H5.out
          obtain ⟨r0, r1, r2, r3, r4, r5⟩ := blk_cell6 H12.out
          go_wp2_with (first | (go_at_call 31; refine (QSc.sakiaref36_Conf.calls 1000 _ _ _ _ _ A C c.up _ _ (Kd.C_below HA.out.1 HB.out) HA.out.2 (QSc.conf_l c HC.out.1 HC.out.2 HSM.out)).mono ?_; rintro e w41 ⟨rfl, hb⟩; replace HB := Aside.mk (HB.out.trans (hb.mono HB.out.size)); replace H4 := Aside.mk (blk_below H4.out hb); replace H5 := Aside.mk (blk_below H5.out hb); replace H12 := Aside.mk (blk_below H12.out hb); replace H14 := Aside.mk (blk_below H14.out hb); replace HO12 := Aside.mk (And.intro (Kd.C_below HO12.out.1 hb) HO12.out.2); clear hb; clear e0 e1 e2 e3 e4 e5 f0 f1 f2 f3 f4 f5 f6 f7 r0 r1 r2 r3 r4 r5; obtain ⟨e0, e1, e2, e3, e4, e5⟩ := blk_cell6 H4.out; obtain ⟨f0, f1, f2, f3, f4, f5, f6, f7⟩ := blk_cell4 H5.out; obtain ⟨r0, r1, r2, r3, r4, r5⟩ := blk_cell6 H12.out) | (go_at_call 33; refine (QSc.sakiaref10_Same.calls 1000 _ _ _ _ _ A12 k12 c.up _ _ _ _ _ A C c.up true _ HO12.out.1 HO12.out.2 (Kd.C_below HA.out.1 HB.out) HA.out.2 (QSc.csame_refl _ _ _ _ _ c.up (by have := HSM.out.1; omega) (fun l hl => by have := HSM.out.2 l hl; omega))).mono ?_; rintro e w43 ⟨rfl, hb⟩; replace HB := Aside.mk (HB.out.trans (hb.mono HB.out.size)); replace H4 := Aside.mk (blk_below H4.out hb); replace H5 := Aside.mk (blk_below H5.out hb); replace H12 := Aside.mk (blk_below H12.out hb); replace H14 := Aside.mk (blk_below H14.out hb); replace HO12 := Aside.mk (And.intro (Kd.C_below HO12.out.1 hb) HO12.out.2); clear hb; clear e0 e1 e2 e3 e4 e5 f0 f1 f2 f3 f4 f5 f6 f7 r0 r1 r2 r3 r4 r5; obtain ⟨e0, e1, e2, e3, e4, e5⟩ := blk_cell6 H4.out; obtain ⟨f0, f1, f2, f3, f4, f5, f6, f7⟩ := blk_cell4 H5.out; obtain ⟨r0, r1, r2, r3, r4, r5⟩ := blk_cell6 H12.out) | (go_at_call 34; refine (QSc.sakiaref36_Clean.calls _ _ _ B D a.data false _ (Kd.C_below HBD.out.1 HB.out) HBD.out.2 (by rw [QSc.clean_l, HCL.out])).mono ?_; rintro e w44 ⟨rfl, hb⟩; replace HB := Aside.mk (HB.out.trans (hb.mono HB.out.size)); replace H4 := Aside.mk (blk_below H4.out hb); replace H5 := Aside.mk (blk_below H5.out hb); replace H12 := Aside.mk (blk_below H12.out hb); replace H14 := Aside.mk (blk_below H14.out hb); replace HO12 := Aside.mk (And.intro (Kd.C_below HO12.out.1 hb) HO12.out.2); clear hb; clear e0 e1 e2 e3 e4 e5 f0 f1 f2 f3 f4 f5 f6 f7 r0 r1 r2 r3 r4 r5; obtain ⟨e0, e1, e2, e3, e4, e5⟩ := blk_cell6 H4.out; obtain ⟨f0, f1, f2, f3, f4, f5, f6, f7⟩ := blk_cell4 H5.out; obtain ⟨r0, r1, r2, r3, r4, r5⟩ := blk_cell6 H12.out) | (go_at_call 28; refine (slive_ _ (HW.out.below HB.out)).mono ?_; rintro e w9 ⟨rfl, hb⟩; replace HB := Aside.mk (HB.out.trans (hb.mono HB.out.size)); clear hb))
          go_ret
          exact ⟨rfl, HB.out⟩
        · have HCL := Aside.mk hcl
          by_cases hop : a.op = 0
          · have m1 : (a.op == 0) = true := by rw [hop]; rfl
            have m2 : decide (a.op = 0) = true := decide_eq_true hop
            refine (act_c a HAC.out HD1.out hcl 7 (by rw [if_pos hop]) _ (HW.out.below HB.out)).mono ?_
            rintro r w14 ⟨A14, k14, rfl, hO, hb⟩
            have HO14 := Aside.mk hO
            clear hO hop hcl
            replace HB := Aside.mk (HB.out.trans (hb.mono HB.out.size)); replace H4 := Aside.mk (blk_below H4.out hb); replace H5 := Aside.mk (blk_below H5.out hb); replace H12 := Aside.mk (blk_below H12.out hb); replace HO12 := Aside.mk (And.intro (Kd.C_below HO12.out.1 hb) HO12.out.2); clear hb
            have H14 := Aside.mk (heap_alloc_new w14 (.cells #[.int .i64 a.thread, .int .i64 a.op, .int .i64 a.n, .slice A14 a.data.length k14] 50))
            have hb := below_alloc (Below.refl w14.heap.size w14) (.cells #[.int .i64 a.thread, .int .i64 a.op, .int .i64 a.n, .slice A14 a.data.length k14] 50)
            replace HB := Aside.mk (HB.out.trans (hb.mono HB.out.size)); replace H4 := Aside.mk (blk_below H4.out hb); replace H5 := Aside.mk (blk_below H5.out hb); replace H12 := Aside.mk (blk_below H12.out hb); replace HO12 := Aside.mk (And.intro (Kd.C_below HO12.out.1 hb) HO12.out.2); replace HO14 := Aside.mk (And.intro (Kd.C_below HO14.out.1 hb) HO14.out.2); clear hb
            go_upto_region 9 with (fail)
            generalize w14.alloc (.cells #[.int .i64 a.thread, .int .i64 a.op, .int .i64 a.n, .slice A14 a.data.length k14] 50) = w15 at *
            generalize w14.heap.size = g14 at *
            obtain ⟨e0, e1, e2, e3, e4, e5⟩ := blk_cell6 H4.out
            obtain ⟨f0, f1, f2, f3, f4, f5, f6, f7⟩ := blk_cell4 H5.out
            obtain ⟨r0, r1, r2, r3, r4, r5⟩ := blk_cell6 H12.out
            go_upto_region 16 with (first | (go_at_call 31; refine (QSc.sakiaref36_Conf.calls 1000 _ _ _ _ _ A C c.up _ _ (Kd.C_below HA.out.1 HB.out) HA.out.2 (QSc.conf_l c HC.out.1 HC.out.2 HSM.out)).mono ?_; rintro e w41 ⟨rfl, hb⟩; replace HB := Aside.mk (HB.out.trans (hb.mono HB.out.size)); replace H4 := Aside.mk (blk_below H4.out hb); replace H5 := Aside.mk (blk_below H5.out hb); replace H12 := Aside.mk (blk_below H12.out hb); replace H14 := Aside.mk (blk_below H14.out hb); replace HO12 := Aside.mk (And.intro (Kd.C_below HO12.out.1 hb) HO12.out.2); replace HO14 := Aside.mk (And.intro (Kd.C_below HO14.out.1 hb) HO14.out.2); clear hb; clear e0 e1 e2 e3 e4 e5 f0 f1 f2 f3 f4 f5 f6 f7 r0 r1 r2 r3 r4 r5; obtain ⟨e0, e1, e2, e3, e4, e5⟩ := blk_cell6 H4.out; obtain ⟨f0, f1, f2, f3, f4, f5, f6, f7⟩ := blk_cell4 H5.out; obtain ⟨r0, r1, r2, r3, r4, r5⟩ := blk_cell6 H12.out) | (go_at_call 33; refine (QSc.sakiaref10_Same.calls 1000 _ _ _ _ _ A12 k12 c.up _ _ _ _ _ A C c.up true _ HO12.out.1 HO12.out.2 (Kd.C_below HA.out.1 HB.out) HA.out.2 (QSc.csame_refl _ _ _ _ _ c.up (by have := HSM.out.1; omega) (fun l hl => by have := HSM.out.2 l hl; omega))).mono ?_; rintro e w43 ⟨rfl, hb⟩; replace HB := Aside.mk (HB.out.trans (hb.mono HB.out.size)); replace H4 := Aside.mk (blk_below H4.out hb); replace H5 := Aside.mk (blk_below H5.out hb); replace H12 := Aside.mk (blk_below H12.out hb); replace H14 := Aside.mk (blk_below H14.out hb); replace HO12 := Aside.mk (And.intro (Kd.C_below HO12.out.1 hb) HO12.out.2); replace HO14 := Aside.mk (And.intro (Kd.C_below HO14.out.1 hb) HO14.out.2); clear hb; clear e0 e1 e2 e3 e4 e5 f0 f1 f2 f3 f4 f5 f6 f7 r0 r1 r2 r3 r4 r5; obtain ⟨e0, e1, e2, e3, e4, e5⟩ := blk_cell6 H4.out; obtain ⟨f0, f1, f2, f3, f4, f5, f6, f7⟩ := blk_cell4 H5.out; obtain ⟨r0, r1, r2, r3, r4, r5⟩ := blk_cell6 H12.out) | (go_at_call 34; refine (QSc.sakiaref36_Clean.calls _ _ _ B D a.data true _ (Kd.C_below HBD.out.1 HB.out) HBD.out.2 (by rw [QSc.clean_l, HCL.out])).mono ?_; rintro e w44 ⟨rfl, hb⟩; replace HB := Aside.mk (HB.out.trans (hb.mono HB.out.size)); replace H4 := Aside.mk (blk_below H4.out hb); replace H5 := Aside.mk (blk_below H5.out hb); replace H12 := Aside.mk (blk_below H12.out hb); replace H14 := Aside.mk (blk_below H14.out hb); replace HO12 := Aside.mk (And.intro (Kd.C_below HO12.out.1 hb) HO12.out.2); replace HO14 := Aside.mk (And.intro (Kd.C_below HO14.out.1 hb) HO14.out.2); clear hb; clear e0 e1 e2 e3 e4 e5 f0 f1 f2 f3 f4 f5 f6 f7 r0 r1 r2 r3 r4 r5; obtain ⟨e0, e1, e2, e3, e4, e5⟩ := blk_cell6 H4.out; obtain ⟨f0, f1, f2, f3, f4, f5, f6, f7⟩ := blk_cell4 H5.out; obtain ⟨r0, r1, r2, r3, r4, r5⟩ := blk_cell6 H12.out))
            obtain ⟨u0, u1, u2, u3, u4, u5, u6, u7⟩ := blk_cell4 H14.out
            have a0x := fun o => pw_cell_below (below_alloc (Below.refl _ _) o) f0
            have a1x := fun o => pw_cell_below (below_alloc (Below.refl _ _) o) f1
            have a2x := fun o => pw_cell_below (below_alloc (Below.refl _ _) o) f2
            have a3x := fun o => pw_cell_below (below_alloc (Below.refl _ _) o) f3
            have b0x := fun o => pw_cell_below (below_alloc (Below.refl _ _) o) u0
            have b1x := fun o => pw_cell_below (below_alloc (Below.refl _ _) o) u1
            have b2x := fun o => pw_cell_below (below_alloc (Below.refl _ _) o) u2
            have b3x := fun o => pw_cell_below (below_alloc (Below.refl _ _) o) u3
            clear e0 e1 e2 e3 e4 e5 f4 f5 f6 f7 r0 r1 r2 r3 r4 r5 u4 u5 u6 u7 n1 m1 m2
            go_wp2_with fail
            refine (acts_two a A14 k14 B D _ HO14.out.1 HO14.out.2 (Kd.C_below HBD.out.1 HB.out) HBD.out.2 HD1.out).mono ?_
            rintro e w45 ⟨rfl, hb⟩
            replace HB := Aside.mk (HB.out.trans (hb.mono HB.out.size))
            clear hb f0 f1 f2 f3 u0 u1 u2 u3 a0x a1x a2x a3x b0x b1x b2x b3x
            go_wp2_with (go_at_call 28; refine (slive_ _ (HW.out.below HB.out)).mono ?_; rintro e w9 ⟨rfl, hb⟩; replace HB := Aside.mk (HB.out.trans (hb.mono HB.out.size)); clear hb)
            go_ret
            exact ⟨rfl, HB.out⟩
          · have m1 : (a.op == 0) = false := by simpa using hop
            have m2 : decide (a.op = 0) = false := decide_eq_false hop
            refine (act_c a HAC.out HD1.out hcl 1 (by rw [if_neg hop]) _ (HW.out.below HB.out)).mono ?_
            rintro r w14 ⟨A14, k14, rfl, hO, hb⟩
            have HO14 := Aside.mk hO
            clear hO hop hcl
            replace HB := Aside.mk (HB.out.trans (hb.mono HB.out.size)); replace H4 := Aside.mk (blk_below H4.out hb); replace H5 := Aside.mk (blk_below H5.out hb); replace H12 := Aside.mk (blk_below H12.out hb); replace HO12 := Aside.mk (And.intro (Kd.C_below HO12.out.1 hb) HO12.out.2); clear hb
            have H14 := Aside.mk (heap_alloc_new w14 (.cells #[.int .i64 a.thread, .int .i64 a.op, .int .i64 a.n, .slice A14 a.data.length k14] 50))
            have hb := below_alloc (Below.refl w14.heap.size w14) (.cells #[.int .i64 a.thread, .int .i64 a.op, .int .i64 a.n, .slice A14 a.data.length k14] 50)
            replace HB := Aside.mk (HB.out.trans (hb.mono HB.out.size)); replace H4 := Aside.mk (blk_below H4.out hb); replace H5 := Aside.mk (blk_below H5.out hb); replace H12 := Aside.mk (blk_below H12.out hb); replace HO12 := Aside.mk (And.intro (Kd.C_below HO12.out.1 hb) HO12.out.2); replace HO14 := Aside.mk (And.intro (Kd.C_below HO14.out.1 hb) HO14.out.2); clear hb
            go_upto_region 9 with (fail)
            generalize w14.alloc (.cells #[.int .i64 a.thread, .int .i64 a.op, .int .i64 a.n, .slice A14 a.data.length k14] 50) = w15 at *
            generalize w14.heap.size = g14 at *
            obtain ⟨e0, e1, e2, e3, e4, e5⟩ := blk_cell6 H4.out
            obtain ⟨f0, f1, f2, f3, f4, f5, f6, f7⟩ := blk_cell4 H5.out
            obtain ⟨r0, r1, r2, r3, r4, r5⟩ := blk_cell6 H12.out
            go_upto_region 16 with (first | (go_at_call 31; refine (QSc.sakiaref36_Conf.calls 1000 _ _ _ _ _ A C c.up _ _ (Kd.C_below HA.out.1 HB.out) HA.out.2 (QSc.conf_l c HC.out.1 HC.out.2 HSM.out)).mono ?_; rintro e w41 ⟨rfl, hb⟩; replace HB := Aside.mk (HB.out.trans (hb.mono HB.out.size)); replace H4 := Aside.mk (blk_below H4.out hb); replace H5 := Aside.mk (blk_below H5.out hb); replace H12 := Aside.mk (blk_below H12.out hb); replace H14 := Aside.mk (blk_below H14.out hb); replace HO12 := Aside.mk (And.intro (Kd.C_below HO12.out.1 hb) HO12.out.2); replace HO14 := Aside.mk (And.intro (Kd.C_below HO14.out.1 hb) HO14.out.2); clear hb; clear e0 e1 e2 e3 e4 e5 f0 f1 f2 f3 f4 f5 f6 f7 r0 r1 r2 r3 r4 r5; obtain ⟨e0, e1, e2, e3, e4, e5⟩ := blk_cell6 H4.out; obtain ⟨f0, f1, f2, f3, f4, f5, f6, f7⟩ := blk_cell4 H5.out; obtain ⟨r0, r1, r2, r3, r4, r5⟩ := blk_cell6 H12.out) | (go_at_call 33; refine (QSc.sakiaref10_Same.calls 1000 _ _ _ _ _ A12 k12 c.up _ _ _ _ _ A C c.up true _ HO12.out.1 HO12.out.2 (Kd.C_below HA.out.1 HB.out) HA.out.2 (QSc.csame_refl _ _ _ _ _ c.up (by have := HSM.out.1; omega) (fun l hl => by have := HSM.out.2 l hl; omega))).mono ?_; rintro e w43 ⟨rfl, hb⟩; replace HB := Aside.mk (HB.out.trans (hb.mono HB.out.size)); replace H4 := Aside.mk (blk_below H4.out hb); replace H5 := Aside.mk (blk_below H5.out hb); replace H12 := Aside.mk (blk_below H12.out hb); replace H14 := Aside.mk (blk_below H14.out hb); replace HO12 := Aside.mk (And.intro (Kd.C_below HO12.out.1 hb) HO12.out.2); replace HO14 := Aside.mk (And.intro (Kd.C_below HO14.out.1 hb) HO14.out.2); clear hb; clear e0 e1 e2 e3 e4 e5 f0 f1 f2 f3 f4 f5 f6 f7 r0 r1 r2 r3 r4 r5; obtain ⟨e0, e1, e2, e3, e4, e5⟩ := blk_cell6 H4.out; obtain ⟨f0, f1, f2, f3, f4, f5, f6, f7⟩ := blk_cell4 H5.out; obtain ⟨r0, r1, r2, r3, r4, r5⟩ := blk_cell6 H12.out) | (go_at_call 34; refine (QSc.sakiaref36_Clean.calls _ _ _ B D a.data true _ (Kd.C_below HBD.out.1 HB.out) HBD.out.2 (by rw [QSc.clean_l, HCL.out])).mono ?_; rintro e w44 ⟨rfl, hb⟩; replace HB := Aside.mk (HB.out.trans (hb.mono HB.out.size)); replace H4 := Aside.mk (blk_below H4.out hb); replace H5 := Aside.mk (blk_below H5.out hb); replace H12 := Aside.mk (blk_below H12.out hb); replace H14 := Aside.mk (blk_below H14.out hb); replace HO12 := Aside.mk (And.intro (Kd.C_below HO12.out.1 hb) HO12.out.2); replace HO14 := Aside.mk (And.intro (Kd.C_below HO14.out.1 hb) HO14.out.2); clear hb; clear e0 e1 e2 e3 e4 e5 f0 f1 f2 f3 f4 f5 f6 f7 r0 r1 r2 r3 r4 r5; obtain ⟨e0, e1, e2, e3, e4, e5⟩ := blk_cell6 H4.out; obtain ⟨f0, f1, f2, f3, f4, f5, f6, f7⟩ := blk_cell4 H5.out; obtain ⟨r0, r1, r2, r3, r4, r5⟩ := blk_cell6 H12.out))
            obtain ⟨u0, u1, u2, u3, u4, u5, u6, u7⟩ := blk_cell4 H14.out
            have a0x := fun o => pw_cell_below (below_alloc (Below.refl _ _) o) f0
            have a1x := fun o => pw_cell_below (below_alloc (Below.refl _ _) o) f1
            have a2x := fun o => pw_cell_below (below_alloc (Below.refl _ _) o) f2
            have a3x := fun o => pw_cell_below (below_alloc (Below.refl _ _) o) f3
            have b0x := fun o => pw_cell_below (below_alloc (Below.refl _ _) o) u0
            have b1x := fun o => pw_cell_below (below_alloc (Below.refl _ _) o) u1
            have b2x := fun o => pw_cell_below (below_alloc (Below.refl _ _) o) u2
            have b3x := fun o => pw_cell_below (below_alloc (Below.refl _ _) o) u3
            clear e0 e1 e2 e3 e4 e5 f4 f5 f6 f7 r0 r1 r2 r3 r4 r5 u4 u5 u6 u7 n1 m1 m2
            go_wp2_with fail
            refine (acts_two a A14 k14 B D _ HO14.out.1 HO14.out.2 (Kd.C_below HBD.out.1 HB.out) HBD.out.2 HD1.out).mono ?_
            rintro e w45 ⟨rfl, hb⟩
            replace HB := Aside.mk (HB.out.trans (hb.mono HB.out.size))
            clear hb f0 f1 f2 f3 u0 u1 u2 u3 a0x a1x a2x a3x b0x b1x b2x b3x
            go_wp2_with (go_at_call 28; refine (slive_ _ (HW.out.below HB.out)).mono ?_; rintro e w9 ⟨rfl, hb⟩; replace HB := Aside.mk (HB.out.trans (hb.mono HB.out.size)); clear hb)
            go_ret
            exact ⟨rfl, HB.out⟩
    · have HRC := Aside.mk hrc
      have HRA := Aside.mk hra
      clear hrc hra
      go_upto_region 7 with (first | (go_at_call 31; refine (confback_ s HRC.out A7 c7 _ HO.out.1 HO.out.2 HS3.out).mono ?_; rintro e w31 ⟨rfl, hb⟩; replace HB := Aside.mk (HB.out.trans (hb.mono HB.out.size)); replace H4 := Aside.mk (blk_below H4.out hb); replace H5 := Aside.mk (blk_below H5.out hb); replace H9 := Aside.mk (blk_below H9.out hb); replace HN := Aside.mk (And.intro (Kd.C_below HN.out.1 hb) HN.out.2); clear hb p0 p1 p2 p3 p4 p5 q0 q1 q2 q3 q4 q5 q6 q7; obtain ⟨q0, q1, q2, q3, q4, q5, q6, q7⟩ := blk_cell4 H9.out) | (go_at_call 32; refine (actback_ s HRA.out A9 c9 _ HN.out.1 HN.out.2 HS3.out).mono ?_; rintro e w32 ⟨rfl, hb⟩; replace HB := Aside.mk (HB.out.trans (hb.mono HB.out.size)); replace H4 := Aside.mk (blk_below H4.out hb); replace H5 := Aside.mk (blk_below H5.out hb); clear hb))
      obtain ⟨e0, e1, e2, e3, e4, e5⟩ := blk_cell6 H4.out
      go_wp2_with fail
      refine (QSc.sakiaref36_Conf.calls 1000 _ _ _ _ _ A C c.up _ _ (Kd.C_below HA.out.1 HB.out) HA.out.2 (QSc.conf_l c HC.out.1 HC.out.2 HSM.out)).mono ?_
      rintro e w10 ⟨rfl, hb⟩
      replace HB := Aside.mk (HB.out.trans (hb.mono HB.out.size)); replace H4 := Aside.mk (blk_below H4.out hb); replace H5 := Aside.mk (blk_below H5.out hb); clear hb
      clear e0 e1 e2 e3 e4 e5
      go_wp2_with fail
      by_cases hvn : varT c.variant = []
      · have n1 : (bs (confT c)).toList.isEmpty = true := by rw [confT_nil, decide_eq_false (by simpa using hvn)]; rfl
        refine (conf_n c HC.out.1 HSM.out hvn _ (HW.out.below HB.out)).mono ?_
        rintro r w11 ⟨A12, k12, rfl, hb⟩
        clear hvn
        replace HB := Aside.mk (HB.out.trans (hb.mono HB.out.size)); replace H4 := Aside.mk (blk_below H4.out hb); replace H5 := Aside.mk (blk_below H5.out hb); clear hb
        have H12 := Aside.mk (heap_alloc_new w11 (.cells #[.int .i64 0, .int .i64 0, .int .i64 0, .int .i64 0, .int .u64 0, .slice A12 0 k12] 46))
        have hb := below_alloc (Below.refl w11.heap.size w11) (.cells #[.int .i64 0, .int .i64 0, .int .i64 0, .int .i64 0, .int .u64 0, .slice A12 0 k12] 46)
        replace HB := Aside.mk (HB.out.trans (hb.mono HB.out.size)); replace H4 := Aside.mk (blk_below H4.out hb); replace H5 := Aside.mk (blk_below H5.out hb); clear hb
        go_upto_region 8 with (fail)
        generalize w11.alloc (.cells #[.int .i64 0, .int .i64 0, .int .i64 0, .int .i64 0, .int .u64 0, .slice A12 0 k12] 46) = w12 at *
        generalize w11.heap.size = g12 at *
        obtain ⟨f0, f1, f2, f3, f4, f5, f6, f7⟩ := blk_cell4 H5.out
        go_wp2_with fail
        refine (QSc.sakiaref36_Act.calls _ _ _ B D a.data 7 _ _ (Kd.C_below HBD.out.1 HB.out) HBD.out.2 (QSc.act_l a HAC.out (by have := HD1.out; omega) 7 (by decide))).mono ?_
        rintro e w13 ⟨rfl, hb⟩
        replace HB := Aside.mk (HB.out.trans (hb.mono HB.out.size)); replace H4 := Aside.mk (blk_below H4.out hb); replace H5 := Aside.mk (blk_below H5.out hb); replace H12 := Aside.mk (blk_below H12.out hb); clear hb
        clear f0 f1 f2 f3 f4 f5 f6 f7
        go_wp2_with fail
        cases hcl : cleanA a
        · have HCL := Aside.mk hcl
          refine (act_n a HAC.out HD1.out hcl _ (HW.out.below HB.out)).mono ?_
          rintro r w14 ⟨A14, k14, rfl, hb⟩
          clear hcl
          replace HB := Aside.mk (HB.out.trans (hb.mono HB.out.size)); replace H4 := Aside.mk (blk_below H4.out hb); replace H5 := Aside.mk (blk_below H5.out hb); replace H12 := Aside.mk (blk_below H12.out hb); clear hb
          have H14 := Aside.mk (heap_alloc_new w14 (.cells #[.int .i64 0, .int .i64 0, .int .i64 0, .slice A14 0 k14] 50))
          have hb := below_alloc (Below.refl w14.heap.size w14) (.cells #[.int .i64 0, .int .i64 0, .int .i64 0, .slice A14 0 k14] 50)
          replace HB := Aside.mk (HB.out.trans (hb.mono HB.out.size)); replace H4 := Aside.mk (blk_below H4.out hb); replace H5 := Aside.mk (blk_below H5.out hb); replace H12 := Aside.mk (blk_below H12.out hb); clear hb
          go_upto_region 9 with (fail)
          generalize w14.alloc (.cells #[.int .i64 0, .int .i64 0, .int .i64 0, .slice A14 0 k14] 50) = w15 at *
          generalize w14.heap.size = g14 at *
          obtain ⟨e0, e1, e2, e3, e4, e5⟩ := blk_cell6 H4.out
          obtain ⟨f0, f1, f2, f3, f4, f5, f6, f7⟩ := blk_cell4 H5.out
          obtain ⟨r0, r1, r2, r3, r4, r5⟩ := blk_cell6 H12.out
          go_wp2_with (first | (go_at_call 31; refine (QSc.sakiaref36_Conf.calls 1000 _ _ _ _ _ A C c.up _ _ (Kd.C_below HA.out.1 HB.out) HA.out.2 (QSc.conf_l c HC.out.1 HC.out.2 HSM.out)).mono ?_; rintro e w41 ⟨rfl, hb⟩; replace HB := Aside.mk (HB.out.trans (hb.mono HB.out.size)); replace H4 := Aside.mk (blk_below H4.out hb); replace H5 := Aside.mk (blk_below H5.out hb); replace H12 := Aside.mk (blk_below H12.out hb); replace H14 := Aside.mk (blk_below H14.out hb); clear hb; clear e0 e1 e2 e3 e4 e5 f0 f1 f2 f3 f4 f5 f6 f7 r0 r1 r2 r3 r4 r5; obtain ⟨e0, e1, e2, e3, e4, e5⟩ := blk_cell6 H4.out; obtain ⟨f0, f1, f2, f3, f4, f5, f6, f7⟩ := blk_cell4 H5.out; obtain ⟨r0, r1, r2, r3, r4, r5⟩ := blk_cell6 H12.out) | (go_at_call 34; refine (QSc.sakiaref36_Clean.calls _ _ _ B D a.data false _ (Kd.C_below HBD.out.1 HB.out) HBD.out.2 (by rw [QSc.clean_l, HCL.out])).mono ?_; rintro e w44 ⟨rfl, hb⟩; replace HB := Aside.mk (HB.out.trans (hb.mono HB.out.size)); replace H4 := Aside.mk (blk_below H4.out hb); replace H5 := Aside.mk (blk_below H5.out hb); replace H12 := Aside.mk (blk_below H12.out hb); replace H14 := Aside.mk (blk_below H14.out hb); clear hb; clear e0 e1 e2 e3 e4 e5 f0 f1 f2 f3 f4 f5 f6 f7 r0 r1 r2 r3 r4 r5; obtain ⟨e0, e1, e2, e3, e4, e5⟩ := blk_cell6 H4.out; obtain ⟨f0, f1, f2, f3, f4, f5, f6, f7⟩ := blk_cell4 H5.out; obtain ⟨r0, r1, r2, r3, r4, r5⟩ := blk_cell6 H12.out) | (go_at_call 28; refine (slive_ _ (HW.out.below HB.out)).mono ?_; rintro e w9 ⟨rfl, hb⟩; replace HB := Aside.mk (HB.out.trans (hb.mono HB.out.size)); clear hb))
          go_ret
          exact ⟨rfl, HB.out⟩
        · have HCL := Aside.mk hcl
          by_cases hop : a.op = 0
          · have m1 : (a.op == 0) = true := by rw [hop]; rfl
            have m2 : decide (a.op = 0) = true := decide_eq_true hop
            refine (act_c a HAC.out HD1.out hcl 7 (by rw [if_pos hop]) _ (HW.out.below HB.out)).mono ?_
            rintro r w14 ⟨A14, k14, rfl, hO, hb⟩
            have HO14 := Aside.mk hO
            clear hO hop hcl
            replace HB := Aside.mk (HB.out.trans (hb.mono HB.out.size)); replace H4 := Aside.mk (blk_below H4.out hb); replace H5 := Aside.mk (blk_below H5.out hb); replace H12 := Aside.mk (blk_below H12.out hb); clear hb
            have H14 := Aside.mk (heap_alloc_new w14 (.cells #[.int .i64 a.thread, .int .i64 a.op, .int .i64 a.n, .slice A14 a.data.length k14] 50))
            have hb := below_alloc (Below.refl w14.heap.size w14) (.cells #[.int .i64 a.thread, .int .i64 a.op, .int .i64 a.n, .slice A14 a.data.length k14] 50)
            replace HB := Aside.mk (HB.out.trans (hb.mono HB.out.size)); replace H4 := Aside.mk (blk_below H4.out hb); replace H5 := Aside.mk (blk_below H5.out hb); replace H12 := Aside.mk (blk_below H12.out hb); replace HO14 := Aside.mk (And.intro (Kd.C_below HO14.out.1 hb) HO14.out.2); clear hb
            go_upto_region 9 with (fail)
            generalize w14.alloc (.cells #[.int .i64 a.thread, .int .i64 a.op, .int .i64 a.n, .slice A14 a.data.length k14] 50) = w15 at *
            generalize w14.heap.size = g14 at *
            obtain ⟨e0, e1, e2, e3, e4, e5⟩ := blk_cell6 H4.out
            obtain ⟨f0, f1, f2, f3, f4, f5, f6, f7⟩ := blk_cell4 H5.out
            obtain ⟨r0, r1, r2, r3, r4, r5⟩ := blk_cell6 H12.out
            go_upto_region 16 with (first | (go_at_call 31; refine (QSc.sakiaref36_Conf.calls 1000 _ _ _ _ _ A C c.up _ _ (Kd.C_below HA.out.1 HB.out) HA.out.2 (QSc.conf_l c HC.out.1 HC.out.2 HSM.out)).mono ?_; rintro e w41 ⟨rfl, hb⟩; replace HB := Aside.mk (HB.out.trans (hb.mono HB.out.size)); replace H4 := Aside.mk (blk_below H4.out hb); replace H5 := Aside.mk (blk_below H5.out hb); replace H12 := Aside.mk (blk_below H12.out hb); replace H14 := Aside.mk (blk_below H14.out hb); replace HO14 := Aside.mk (And.intro (Kd.C_below HO14.out.1 hb) HO14.out.2); clear hb; clear e0 e1 e2 e3 e4 e5 f0 f1 f2 f3 f4 f5 f6 f7 r0 r1 r2 r3 r4 r5; obtain ⟨e0, e1, e2, e3, e4, e5⟩ := blk_cell6 H4.out; obtain ⟨f0, f1, f2, f3, f4, f5, f6, f7⟩ := blk_cell4 H5.out; obtain ⟨r0, r1, r2, r3, r4, r5⟩ := blk_cell6 H12.out) | (go_at_call 34; refine (QSc.sakiaref36_Clean.calls _ _ _ B D a.data true _ (Kd.C_below HBD.out.1 HB.out) HBD.out.2 (by rw [QSc.clean_l, HCL.out])).mono ?_; rintro e w44 ⟨rfl, hb⟩; replace HB := Aside.mk (HB.out.trans (hb.mono HB.out.size)); replace H4 := Aside.mk (blk_below H4.out hb); replace H5 := Aside.mk (blk_below H5.out hb); replace H12 := Aside.mk (blk_below H12.out hb); replace H14 := Aside.mk (blk_below H14.out hb); replace HO14 := Aside.mk (And.intro (Kd.C_below HO14.out.1 hb) HO14.out.2); clear hb; clear e0 e1 e2 e3 e4 e5 f0 f1 f2 f3 f4 f5 f6 f7 r0 r1 r2 r3 r4 r5; obtain ⟨e0, e1, e2, e3, e4, e5⟩ := blk_cell6 H4.out; obtain ⟨f0, f1, f2, f3, f4, f5, f6, f7⟩ := blk_cell4 H5.out; obtain ⟨r0, r1, r2, r3, r4, r5⟩ := blk_cell6 H12.out))
            obtain ⟨u0, u1, u2, u3, u4, u5, u6, u7⟩ := blk_cell4 H14.out
            have a0x := fun o => pw_cell_below (below_alloc (Below.refl _ _) o) f0
            have a1x := fun o => pw_cell_below (below_alloc (Below.refl _ _) o) f1
            have a2x := fun o => pw_cell_below (below_alloc (Below.refl _ _) o) f2
            have a3x := fun o => pw_cell_below (below_alloc (Below.refl _ _) o) f3
            have b0x := fun o => pw_cell_below (below_alloc (Below.refl _ _) o) u0
            have b1x := fun o => pw_cell_below (below_alloc (Below.refl _ _) o) u1
            have b2x := fun o => pw_cell_below (below_alloc (Below.refl _ _) o) u2
            have b3x := fun o => pw_cell_below (below_alloc (Below.refl _ _) o) u3
            clear e0 e1 e2 e3 e4 e5 f4 f5 f6 f7 r0 r1 r2 r3 r4 r5 u4 u5 u6 u7 n1 m1 m2
            go_wp2_with fail
            refine (acts_two a A14 k14 B D _ HO14.out.1 HO14.out.2 (Kd.C_below HBD.out.1 HB.out) HBD.out.2 HD1.out).mono ?_
            rintro e w45 ⟨rfl, hb⟩
            replace HB := Aside.mk (HB.out.trans (hb.mono HB.out.size))
            clear hb f0 f1 f2 f3 u0 u1 u2 u3 a0x a1x a2x a3x b0x b1x b2x b3x
            go_wp2_with (go_at_call 28; refine (slive_ _ (HW.out.below HB.out)).mono ?_; rintro e w9 ⟨rfl, hb⟩; replace HB := Aside.mk (HB.out.trans (hb.mono HB.out.size)); clear hb)
            go_ret
            exact ⟨rfl, HB.out⟩
          · have m1 : (a.op == 0) = false := by simpa using hop
            have m2 : decide (a.op = 0) = false := decide_eq_false hop
            refine (act_c a HAC.out HD1.out hcl 1 (by rw [if_neg hop]) _ (HW.out.below HB.out)).mono ?_
            rintro r w14 ⟨A14, k14, rfl, hO, hb⟩
            have HO14 := Aside.mk hO
            clear hO hop hcl
            replace HB := Aside.mk (HB.out.trans (hb.mono HB.out.size)); replace H4 := Aside.mk (blk_below H4.out hb); replace H5 := Aside.mk (blk_below H5.out hb); replace H12 := Aside.mk (blk_below H12.out hb); clear hb
            have H14 := Aside.mk (heap_alloc_new w14 (.cells #[.int .i64 a.thread, .int .i64 a.op, .int .i64 a.n, .slice A14 a.data.length k14] 50))
            have hb := below_alloc (Below.refl w14.heap.size w14) (.cells #[.int .i64 a.thread, .int .i64 a.op, .int .i64 a.n, .slice A14 a.data.length k14] 50)
            replace HB := Aside.mk (HB.out.trans (hb.mono HB.out.size)); replace H4 := Aside.mk (blk_below H4.out hb); replace H5 := Aside.mk (blk_below H5.out hb); replace H12 := Aside.mk (blk_below H12.out hb); replace HO14 := Aside.mk (And.intro (Kd.C_below HO14.out.1 hb) HO14.out.2); clear hb
            go_upto_region 9 with (fail)
            generalize w14.alloc (.cells #[.int .i64 a.thread, .int .i64 a.op, .int .i64 a.n, .slice A14 a.data.length k14] 50) = w15 at *
            generalize w14.heap.size = g14 at *
            obtain ⟨e0, e1, e2, e3, e4, e5⟩ := blk_cell6 H4.out
            obtain ⟨f0, f1, f2, f3, f4, f5, f6, f7⟩ := blk_cell4 H5.out
            obtain ⟨r0, r1, r2, r3, r4, r5⟩ := blk_cell6 H12.out
            go_upto_region 16 with (first | (go_at_call 31; refine (QSc.sakiaref36_Conf.calls 1000 _ _ _ _ _ A C c.up _ _ (Kd.C_below HA.out.1 HB.out) HA.out.2 (QSc.conf_l c HC.out.1 HC.out.2 HSM.out)).mono ?_; rintro e w41 ⟨rfl, hb⟩; replace HB := Aside.mk (HB.out.trans (hb.mono HB.out.size)); replace H4 := Aside.mk (blk_below H4.out hb); replace H5 := Aside.mk (blk_below H5.out hb); replace H12 := Aside.mk (blk_below H12.out hb); replace H14 := Aside.mk (blk_below H14.out hb); replace HO14 := Aside.mk (And.intro (Kd.C_below HO14.out.1 hb) HO14.out.2); clear hb; clear e0 e1 e2 e3 e4 e5 f0 f1 f2 f3 f4 f5 f6 f7 r0 r1 r2 r3 r4 r5; obtain ⟨e0, e1, e2, e3, e4, e5⟩ := blk_cell6 H4.out; obtain ⟨f0, f1, f2, f3, f4, f5, f6, f7⟩ := blk_cell4 H5.out; obtain ⟨r0, r1, r2, r3, r4, r5⟩ := blk_cell6 H12.out) | (go_at_call 34; refine (QSc.sakiaref36_Clean.calls _ _ _ B D a.data true _ (Kd.C_below HBD.out.1 HB.out) HBD.out.2 (by rw [QSc.clean_l, HCL.out])).mono ?_; rintro e w44 ⟨rfl, hb⟩; replace HB := Aside.mk (HB.out.trans (hb.mono HB.out.size)); replace H4 := Aside.mk (blk_below H4.out hb); replace H5 := Aside.mk (blk_below H5.out hb); replace H12 := Aside.mk (blk_below H12.out hb); replace H14 := Aside.mk (blk_below H14.out hb); replace HO14 := Aside.mk (And.intro (Kd.C_below HO14.out.1 hb) HO14.out.2); clear hb; clear e0 e1 e2 e3 e4 e5 f0 f1 f2 f3 f4 f5 f6 f7 r0 r1 r2 r3 r4 r5; obtain ⟨e0, e1, e2, e3, e4, e5⟩ := blk_cell6 H4.out; obtain ⟨f0, f1, f2, f3, f4, f5, f6, f7⟩ := blk_cell4 H5.out; obtain ⟨r0, r1, r2, r3, r4, r5⟩ := blk_cell6 H12.out))
            obtain ⟨u0, u1, u2, u3, u4, u5, u6, u7⟩ := blk_cell4 H14.out
            have a0x := fun o => pw_cell_below (below_alloc (Below.refl _ _) o) f0
            have a1x := fun o => pw_cell_below (below_alloc (Below.refl _ _) o) f1
            have a2x := fun o => pw_cell_below (below_alloc (Below.refl _ _) o) f2
            have a3x := fun o => pw_cell_below (below_alloc (Below.refl _ _) o) f3
            have b0x := fun o => pw_cell_below (below_alloc (Below.refl _ _) o) u0
            have b1x := fun o => pw_cell_below (below_alloc (Below.refl _ _) o) u1
            have b2x := fun o => pw_cell_below (below_alloc (Below.refl _ _) o) u2
            have b3x := fun o => pw_cell_below (below_alloc (Below.refl _ _) o) u3
            clear e0 e1 e2 e3 e4 e5 f4 f5 f6 f7 r0 r1 r2 r3 r4 r5 u4 u5 u6 u7 n1 m1 m2
            go_wp2_with fail
            refine (acts_two a A14 k14 B D _ HO14.out.1 HO14.out.2 (Kd.C_below HBD.out.1 HB.out) HBD.out.2 HD1.out).mono ?_
            rintro e w45 ⟨rfl, hb⟩
            replace HB := Aside.mk (HB.out.trans (hb.mono HB.out.size))
            clear hb f0 f1 f2 f3 u0 u1 u2 u3 a0x a1x a2x a3x b0x b1x b2x b3x
            go_wp2_with (go_at_call 28; refine (slive_ _ (HW.out.below HB.out)).mono ?_; rintro e w9 ⟨rfl, hb⟩; replace HB := Aside.mk (HB.out.trans (hb.mono HB.out.size)); clear hb)
            go_ret
            exact ⟨rfl, HB.out⟩
      · have n1 : (bs (confT c)).toList.isEmpty = false := by rw [confT_nil, decide_eq_true hvn]; rfl
        refine (conf_c c HC.out.1 HSM.out hvn _ (HW.out.below HB.out)).mono ?_
        rintro r w11 ⟨A12, k12, rfl, hO, hb⟩
        have HO12 := Aside.mk hO
        clear hO
        clear hvn
        replace HB := Aside.mk (HB.out.trans (hb.mono HB.out.size)); replace H4 := Aside.mk (blk_below H4.out hb); replace H5 := Aside.mk (blk_below H5.out hb); clear hb
        have H12 := Aside.mk (heap_alloc_new w11 (.cells #[.int .i64 c.variant, .int .i64 c.width, .int .i64 c.cap, .int .i64 c.prod, .int .u64 (c.start : Int), .slice A12 c.up.length k12] 46))
        have hb := below_alloc (Below.refl w11.heap.size w11) (.cells #[.int .i64 c.variant, .int .i64 c.width, .int .i64 c.cap, .int .i64 c.prod, .int .u64 (c.start : Int), .slice A12 c.up.length k12] 46)
        replace HB := Aside.mk (HB.out.trans (hb.mono HB.out.size)); replace H4 := Aside.mk (blk_below H4.out hb); replace H5 := Aside.mk (blk_below H5.out hb); replace HO12 := Aside.mk (And.intro (Kd.C_below HO12.out.1 hb) HO12.out.2); clear hb
        go_upto_region 8 with (fail)
        generalize w11.alloc (.cells #[.int .i64 c.variant, .int .i64 c.width, .int .i64 c.cap, .int .i64 c.prod, .int .u64 (c.start : Int), .slice A12 c.up.length k12] 46) = w12 at *
        generalize w11.heap.size = g12 at *
        obtain ⟨f0, f1, f2, f3, f4, f5, f6, f7⟩ := blk_cell4 H5.out
        go_wp2_with fail
        refine (QSc.sakiaref36_Act.calls _ _ _ B D a.data 7 _ _ (Kd.C_below HBD.out.1 HB.out) HBD.out.2 (QSc.act_l a HAC.out (by have := HD1.out; omega) 7 (by decide))).mono ?_
        rintro e w13 ⟨rfl, hb⟩
        replace HB := Aside.mk (HB.out.trans (hb.mono HB.out.size)); replace H4 := Aside.mk (blk_below H4.out hb); replace H5 := Aside.mk (blk_below H5.out hb); replace H12 := Aside.mk (blk_below H12.out hb); replace HO12 := Aside.mk (And.intro (Kd.C_below HO12.out.1 hb) HO12.out.2); clear hb
        clear f0 f1 f2 f3 f4 f5 f6 f7
        go_wp2_with fail
        cases hcl : cleanA a
        · have HCL := Aside.mk hcl
          refine (act_n a HAC.out HD1.out hcl _ (HW.out.below HB.out)).mono ?_
          rintro r w14 ⟨A14, k14, rfl, hb⟩
          clear hcl
          replace HB := Aside.mk (HB.out.trans (hb.mono HB.out.size)); replace H4 := Aside.mk (blk_below H4.out hb); replace H5 := Aside.mk (blk_below H5.out hb); replace H12 := Aside.mk (blk_below H12.out hb); replace HO12 := Aside.mk (And.intro (Kd.C_below HO12.out.1 hb) HO12.out.2); clear hb
          have H14 := Aside.mk (heap_alloc_new w14 (.cells #[.int .i64 0, .int .i64 0, .int .i64 0, .slice A14 0 k14] 50))
          have hb := below_alloc (Below.refl w14.heap.size w14) (.cells #[.int .i64 0, .int .i64 0, .int .i64 0, .slice A14 0 k14] 50)
          replace HB := Aside.mk (HB.out.trans (hb.mono HB.out.size)); replace H4 := Aside.mk (blk_below H4.out hb); replace H5 := Aside.mk (blk_below H5.out hb); replace H12 := Aside.mk (blk_below H12.out hb); replace HO12 := Aside.mk (And.intro (Kd.C_below HO12.out.1 hb) HO12.out.2); clear hb
          go_upto_region 9 with (fail)
          generalize w14.alloc (.cells #[.int .i64 0, .int .i64 0, .int .i64 0, .slice A14 0 k14] 50) = w15 at *
          generalize w14.heap.size = g14 at *
          obtain ⟨e0, e1, e2, e3, e4, e5⟩ := blk_cell6 H4.out
          obtain ⟨f0, f1, f2, f3, f4, f5, f6, f7⟩ := blk_cell4 H5.out
          obtain ⟨r0, r1, r2, r3, r4, r5⟩ := blk_cell6 H12.out
          go_wp2_with (first | (go_at_call 31; refine (QSc.sakiaref36_Conf.calls 1000 _ _ _ _ _ A C c.up _ _ (Kd.C_below HA.out.1 HB.out) HA.out.2 (QSc.conf_l c HC.out.1 HC.out.2 HSM.out)).mono ?_; rintro e w41 ⟨rfl, hb⟩; replace HB := Aside.mk (HB.out.trans (hb.mono HB.out.size)); replace H4 := Aside.mk (blk_below H4.out hb); replace H5 := Aside.mk (blk_below H5.out hb); replace H12 := Aside.mk (blk_below H12.out hb); replace H14 := Aside.mk (blk_below H14.out hb); replace HO12 := Aside.mk (And.intro (Kd.C_below HO12.out.1 hb) HO12.out.2); clear hb; clear e0 e1 e2 e3 e4 e5 f0 f1 f2 f3 f4 f5 f6 f7 r0 r1 r2 r3 r4 r5; obtain ⟨e0, e1, e2, e3, e4, e5⟩ := blk_cell6 H4.out; obtain ⟨f0, f1, f2, f3, f4, f5, f6, f7⟩ := blk_cell4 H5.out; obtain ⟨r0, r1, r2, r3, r4, r5⟩ := blk_cell6 H12.out) | (go_at_call 33; refine (QSc.sakiaref10_Same.calls 1000 _ _ _ _ _ A12 k12 c.up _ _ _ _ _ A C c.up true _ HO12.out.1 HO12.out.2 (Kd.C_below HA.out.1 HB.out) HA.out.2 (QSc.csame_refl _ _ _ _ _ c.up (by have := HSM.out.1; omega) (fun l hl => by have := HSM.out.2 l hl; omega))).mono ?_; rintro e w43 ⟨rfl, hb⟩; replace HB := Aside.mk (HB.out.trans (hb.mono HB.out.size)); replace H4 := Aside.mk (blk_below H4.out hb); replace H5 := Aside.mk (blk_below H5.out hb); replace H12 := Aside.mk (blk_below H12.out hb); replace H14 := Aside.mk (blk_below H14.out hb); replace HO12 := Aside.mk (And.intro (Kd.C_below HO12.out.1 hb) HO12.out.2); clear hb; clear e0 e1 e2 e3 e4 e5 f0 f1 f2 f3 f4 f5 f6 f7 r0 r1 r2 r3 r4 r5; obtain ⟨e0, e1, e2, e3, e4, e5⟩ := blk_cell6 H4.out; obtain ⟨f0, f1, f2, f3, f4, f5, f6, f7⟩ := blk_cell4 H5.out; obtain ⟨r0, r1, r2, r3, r4, r5⟩ := blk_cell6 H12.out) | (go_at_call 34; refine (QSc.sakiaref36_Clean.calls _ _ _ B D a.data false _ (Kd.C_below HBD.out.1 HB.out) HBD.out.2 (by rw [QSc.clean_l, HCL.out])).mono ?_; rintro e w44 ⟨rfl, hb⟩; replace HB := Aside.mk (HB.out.trans (hb.mono HB.out.size)); replace H4 := Aside.mk (blk_below H4.out hb); replace H5 := Aside.mk (blk_below H5.out hb); replace H12 := Aside.mk (blk_below H12.out hb); replace H14 := Aside.mk (blk_below H14.out hb); replace HO12 := Aside.mk (And.intro (Kd.C_below HO12.out.1 hb) HO12.out.2); clear hb; clear e0 e1 e2 e3 e4 e5 f0 f1 f2 f3 f4 f5 f6 f7 r0 r1 r2 r3 r4 r5; obtain ⟨e0, e1, e2, e3, e4, e5⟩ := blk_cell6 H4.out; obtain ⟨f0, f1, f2, f3, f4, f5, f6, f7⟩ := blk_cell4 H5.out; obtain ⟨r0, r1, r2, r3, r4, r5⟩ := blk_cell6 H12.out) | (go_at_call 28; refine (slive_ _ (HW.out.below HB.out)).mono ?_; rintro e w9 ⟨rfl, hb⟩; replace HB := Aside.mk (HB.out.trans (hb.mono HB.out.size)); clear hb))
          go_ret
          exact ⟨rfl, HB.out⟩
        · have HCL := Aside.mk hcl
          by_cases hop : a.op = 0
          · have m1 : (a.op == 0) = true := by rw [hop]; rfl
            have m2 : decide (a.op = 0) = true := decide_eq_true hop
            refine (act_c a HAC.out HD1.out hcl 7 (by rw [if_pos hop]) _ (HW.out.below HB.out)).mono ?_
            rintro r w14 ⟨A14, k14, rfl, hO, hb⟩
            have HO14 := Aside.mk hO
            clear hO hop hcl
            replace HB := Aside.mk (HB.out.trans (hb.mono HB.out.size)); replace H4 := Aside.mk (blk_below H4.out hb); replace H5 := Aside.mk (blk_below H5.out hb); replace H12 := Aside.mk (blk_below H12.out hb); replace HO12 := Aside.mk (And.intro (Kd.C_below HO12.out.1 hb) HO12.out.2); clear hb
            have H14 := Aside.mk (heap_alloc_new w14 (.cells #[.int .i64 a.thread, .int .i64 a.op, .int .i64 a.n, .slice A14 a.data.length k14] 50))
            have hb := below_alloc (Below.refl w14.heap.size w14) (.cells #[.int .i64 a.thread, .int .i64 a.op, .int .i64 a.n, .slice A14 a.data.length k14] 50)
            replace HB := Aside.mk (HB.out.trans (hb.mono HB.out.size)); replace H4 := Aside.mk (blk_below H4.out hb); replace H5 := Aside.mk (blk_below H5.out hb); replace H12 := Aside.mk (blk_below H12.out hb); replace HO12 := Aside.mk (And.intro (Kd.C_below HO12.out.1 hb) HO12.out.2); replace HO14 := Aside.mk (And.intro (Kd.C_below HO14.out.1 hb) HO14.out.2); clear hb
            go_upto_region 9 with (fail)
            generalize w14.alloc (.cells #[.int .i64 a.thread, .int .i64 a.op, .int .i64 a.n, .slice A14 a.data.length k14] 50) = w15 at *
            generalize w14.heap.size = g14 at *
            obtain ⟨e0, e1, e2, e3, e4, e5⟩ := blk_cell6 H4.out
            obtain ⟨f0, f1, f2, f3, f4, f5, f6, f7⟩ := blk_cell4 H5.out
            obtain ⟨r0, r1, r2, r3, r4, r5⟩ := blk_cell6 H12.out
            go_upto_region 16 with (first | (go_at_call 31; refine (QSc.sakiaref36_Conf.calls 1000 _ _ _ _ _ A C c.up _ _ (Kd.C_below HA.out.1 HB.out) HA.out.2 (QSc.conf_l c HC.out.1 HC.out.2 HSM.out)).mono ?_; rintro e w41 ⟨rfl, hb⟩; replace HB := Aside.mk (HB.out.trans (hb.mono HB.out.size)); replace H4 := Aside.mk (blk_below H4.out hb); replace H5 := Aside.mk (blk_below H5.out hb); replace H12 := Aside.mk (blk_below H12.out hb); replace H14 := Aside.mk (blk_below H14.out hb); replace HO12 := Aside.mk (And.intro (Kd.C_below HO12.out.1 hb) HO12.out.2); replace HO14 := Aside.mk (And.intro (Kd.C_below HO14.out.1 hb) HO14.out.2); clear hb; clear e0 e1 e2 e3 e4 e5 f0 f1 f2 f3 f4 f5 f6 f7 r0 r1 r2 r3 r4 r5; obtain ⟨e0, e1, e2, e3, e4, e5⟩ := blk_cell6 H4.out; obtain ⟨f0, f1, f2, f3, f4, f5, f6, f7⟩ := blk_cell4 H5.out; obtain ⟨r0, r1, r2, r3, r4, r5⟩ := blk_cell6 H12.out) | (go_at_call 33; refine (QSc.sakiaref10_Same.calls 1000 _ _ _ _ _ A12 k12 c.up _ _ _ _ _ A C c.up true _ HO12.out.1 HO12.out.2 (Kd.C_below HA.out.1 HB.out) HA.out.2 (QSc.csame_refl _ _ _ _ _ c.up (by have := HSM.out.1; omega) (fun l hl => by have := HSM.out.2 l hl; omega))).mono ?_; rintro e w43 ⟨rfl, hb⟩; replace HB := Aside.mk (HB.out.trans (hb.mono HB.out.size)); replace H4 := Aside.mk (blk_below H4.out hb); replace H5 := Aside.mk (blk_below H5.out hb); replace H12 := Aside.mk (blk_below H12.out hb); replace H14 := Aside.mk (blk_below H14.out hb); replace HO12 := Aside.mk (And.intro (Kd.C_below HO12.out.1 hb) HO12.out.2); replace HO14 := Aside.mk (And.intro (Kd.C_below HO14.out.1 hb) HO14.out.2); clear hb; clear e0 e1 e2 e3 e4 e5 f0 f1 f2 f3 f4 f5 f6 f7 r0 r1 r2 r3 r4 r5; obtain ⟨e0, e1, e2, e3, e4, e5⟩ := blk_cell6 H4.out; obtain ⟨f0, f1, f2, f3, f4, f5, f6, f7⟩ := blk_cell4 H5.out; obtain ⟨r0, r1, r2, r3, r4, r5⟩ := blk_cell6 H12.out) | (go_at_call 34; refine (QSc.sakiaref36_Clean.calls _ _ _ B D a.data true _ (Kd.C_below HBD.out.1 HB.out) HBD.out.2 (by rw [QSc.clean_l, HCL.out])).mono ?_; rintro e w44 ⟨rfl, hb⟩; replace HB := Aside.mk (HB.out.trans (hb.mono HB.out.size)); replace H4 := Aside.mk (blk_below H4.out hb); replace H5 := Aside.mk (blk_below H5.out hb); replace H12 := Aside.mk (blk_below H12.out hb); replace H14 := Aside.mk (blk_below H14.out hb); replace HO12 := Aside.mk (And.intro (Kd.C_below HO12.out.1 hb) HO12.out.2); replace HO14 := Aside.mk (And.intro (Kd.C_below HO14.out.1 hb) HO14.out.2); clear hb; clear e0 e1 e2 e3 e4 e5 f0 f1 f2 f3 f4 f5 f6 f7 r0 r1 r2 r3 r4 r5; obtain ⟨e0, e1, e2, e3, e4, e5⟩ := blk_cell6 H4.out; obtain ⟨f0, f1, f2, f3, f4, f5, f6, f7⟩ := blk_cell4 H5.out; obtain ⟨r0, r1, r2, r3, r4, r5⟩ := blk_cell6 H12.out))
            obtain ⟨u0, u1, u2, u3, u4, u5, u6, u7⟩ := blk_cell4 H14.out
            have a0x := fun o => pw_cell_below (below_alloc (Below.refl _ _) o) f0
            have a1x := fun o => pw_cell_below (below_alloc (Below.refl _ _) o) f1
            have a2x := fun o => pw_cell_below (below_alloc (Below.refl _ _) o) f2
            have a3x := fun o => pw_cell_below (below_alloc (Below.refl _ _) o) f3
            have b0x := fun o => pw_cell_below (below_alloc (Below.refl _ _) o) u0
            have b1x := fun o => pw_cell_below (below_alloc (Below.refl _ _) o) u1
            have b2x := fun o => pw_cell_below (below_alloc (Below.refl _ _) o) u2
            have b3x := fun o => pw_cell_below (below_alloc (Below.refl _ _) o) u3
            clear e0 e1 e2 e3 e4 e5 f4 f5 f6 f7 r0 r1 r2 r3 r4 r5 u4 u5 u6 u7 n1 m1 m2
            go_wp2_with fail
            refine (acts_two a A14 k14 B D _ HO14.out.1 HO14.out.2 (Kd.C_below HBD.out.1 HB.out) HBD.out.2 HD1.out).mono ?_
            rintro e w45 ⟨rfl, hb⟩
            replace HB := Aside.mk (HB.out.trans (hb.mono HB.out.size))
            clear hb f0 f1 f2 f3 u0 u1 u2 u3 a0x a1x a2x a3x b0x b1x b2x b3x
            go_wp2_with (go_at_call 28; refine (slive_ _ (HW.out.below HB.out)).mono ?_; rintro e w9 ⟨rfl, hb⟩; replace HB := Aside.mk (HB.out.trans (hb.mono HB.out.size)); clear hb)
            go_ret
            exact ⟨rfl, HB.out⟩
          · have m1 : (a.op == 0) = false := by simpa using hop
            have m2 : decide (a.op = 0) = false := decide_eq_false hop
            refine (act_c a HAC.out HD1.out hcl 1 (by rw [if_neg hop]) _ (HW.out.below HB.out)).mono ?_
            rintro r w14 ⟨A14, k14, rfl, hO, hb⟩
            have HO14 := Aside.mk hO
            clear hO hop hcl
            replace HB := Aside.mk (HB.out.trans (hb.mono HB.out.size)); replace H4 := Aside.mk (blk_below H4.out hb); replace H5 := Aside.mk (blk_below H5.out hb); replace H12 := Aside.mk (blk_below H12.out hb); replace HO12 := Aside.mk (And.intro (Kd.C_below HO12.out.1 hb) HO12.out.2); clear hb
            have H14 := Aside.mk (heap_alloc_new w14 (.cells #[.int .i64 a.thread, .int .i64 a.op, .int .i64 a.n, .slice A14 a.data.length k14] 50))
            have hb := below_alloc (Below.refl w14.heap.size w14) (.cells #[.int .i64 a.thread, .int .i64 a.op, .int .i64 a.n, .slice A14 a.data.length k14] 50)
            replace HB := Aside.mk (HB.out.trans (hb.mono HB.out.size)); replace H4 := Aside.mk (blk_below H4.out hb); replace H5 := Aside.mk (blk_below H5.out hb); replace H12 := Aside.mk (blk_below H12.out hb); replace HO12 := Aside.mk (And.intro (Kd.C_below HO12.out.1 hb) HO12.out.2); replace HO14 := Aside.mk (And.intro (Kd.C_below HO14.out.1 hb) HO14.out.2); clear hb
            go_upto_region 9 with (fail)
            generalize w14.alloc (.cells #[.int .i64 a.thread, .int .i64 a.op, .int .i64 a.n, .slice A14 a.data.length k14] 50) = w15 at *
            generalize w14.heap.size = g14 at *
            obtain ⟨e0, e1, e2, e3, e4, e5⟩ := blk_cell6 H4.out
            obtain ⟨f0, f1, f2, f3, f4, f5, f6, f7⟩ := blk_cell4 H5.out
            obtain ⟨r0, r1, r2, r3, r4, r5⟩ := blk_cell6 H12.out
            go_upto_region 16 with (first | (go_at_call 31; refine (QSc.sakiaref36_Conf.calls 1000 _ _ _ _ _ A C c.up _ _ (Kd.C_below HA.out.1 HB.out) HA.out.2 (QSc.conf_l c HC.out.1 HC.out.2 HSM.out)).mono ?_; rintro e w41 ⟨rfl, hb⟩; replace HB := Aside.mk (HB.out.trans (hb.mono HB.out.size)); replace H4 := Aside.mk (blk_below H4.out hb); replace H5 := Aside.mk (blk_below H5.out hb); replace H12 := Aside.mk (blk_below H12.out hb); replace H14 := Aside.mk (blk_below H14.out hb); replace HO12 := Aside.mk (And.intro (Kd.C_below HO12.out.1 hb) HO12.out.2); replace HO14 := Aside.mk (And.intro (Kd.C_below HO14.out.1 hb) HO14.out.2); clear hb; clear e0 e1 e2 e3 e4 e5 f0 f1 f2 f3 f4 f5 f6 f7 r0 r1 r2 r3 r4 r5; obtain ⟨e0, e1, e2, e3, e4, e5⟩ := blk_cell6 H4.out; obtain ⟨f0, f1, f2, f3, f4, f5, f6, f7⟩ := blk_cell4 H5.out; obtain ⟨r0, r1, r2, r3, r4, r5⟩ := blk_cell6 H12.out) | (go_at_call 33; refine (QSc.sakiaref10_Same.calls 1000 _ _ _ _ _ A12 k12 c.up _ _ _ _ _ A C c.up true _ HO12.out.1 HO12.out.2 (Kd.C_below HA.out.1 HB.out) HA.out.2 (QSc.csame_refl _ _ _ _ _ c.up (by have := HSM.out.1; omega) (fun l hl => by have := HSM.out.2 l hl; omega))).mono ?_; rintro e w43 ⟨rfl, hb⟩; replace HB := Aside.mk (HB.out.trans (hb.mono HB.out.size)); replace H4 := Aside.mk (blk_below H4.out hb); replace H5 := Aside.mk (blk_below H5.out hb); replace H12 := Aside.mk (blk_below H12.out hb); replace H14 := Aside.mk (blk_below H14.out hb); replace HO12 := Aside.mk (And.intro (Kd.C_below HO12.out.1 hb) HO12.out.2); replace HO14 := Aside.mk (And.intro (Kd.C_below HO14.out.1 hb) HO14.out.2); clear hb; clear e0 e1 e2 e3 e4 e5 f0 f1 f2 f3 f4 f5 f6 f7 r0 r1 r2 r3 r4 r5; obtain ⟨e0, e1, e2, e3, e4, e5⟩ := blk_cell6 H4.out; obtain ⟨f0, f1, f2, f3, f4, f5, f6, f7⟩ := blk_cell4 H5.out; obtain ⟨r0, r1, r2, r3, r4, r5⟩ := blk_cell6 H12.out) | (go_at_call 34; refine (QSc.sakiaref36_Clean.calls _ _ _ B D a.data true _ (Kd.C_below HBD.out.1 HB.out) HBD.out.2 (by rw [QSc.clean_l, HCL.out])).mono ?_; rintro e w44 ⟨rfl, hb⟩; replace HB := Aside.mk (HB.out.trans (hb.mono HB.out.size)); replace H4 := Aside.mk (blk_below H4.out hb); replace H5 := Aside.mk (blk_below H5.out hb); replace H12 := Aside.mk (blk_below H12.out hb); replace H14 := Aside.mk (blk_below H14.out hb); replace HO12 := Aside.mk (And.intro (Kd.C_below HO12.out.1 hb) HO12.out.2); replace HO14 := Aside.mk (And.intro (Kd.C_below HO14.out.1 hb) HO14.out.2); clear hb; clear e0 e1 e2 e3 e4 e5 f0 f1 f2 f3 f4 f5 f6 f7 r0 r1 r2 r3 r4 r5; obtain ⟨e0, e1, e2, e3, e4, e5⟩ := blk_cell6 H4.out; obtain ⟨f0, f1, f2, f3, f4, f5, f6, f7⟩ := blk_cell4 H5.out; obtain ⟨r0, r1, r2, r3, r4, r5⟩ := blk_cell6 H12.out))
            obtain ⟨u0, u1, u2, u3, u4, u5, u6, u7⟩ := blk_cell4 H14.out
            have a0x := fun o => pw_cell_below (below_alloc (Below.refl _ _) o) f0
            have a1x := fun o => pw_cell_below (below_alloc (Below.refl _ _) o) f1
            have a2x := fun o => pw_cell_below (below_alloc (Below.refl _ _) o) f2
            have a3x := fun o => pw_cell_below (below_alloc (Below.refl _ _) o) f3
            have b0x := fun o => pw_cell_below (below_alloc (Below.refl _ _) o) u0
            have b1x := fun o => pw_cell_below (below_alloc (Below.refl _ _) o) u1
            have b2x := fun o => pw_cell_below (below_alloc (Below.refl _ _) o) u2
            have b3x := fun o => pw_cell_below (below_alloc (Below.refl _ _) o) u3
            clear e0 e1 e2 e3 e4 e5 f4 f5 f6 f7 r0 r1 r2 r3 r4 r5 u4 u5 u6 u7 n1 m1 m2
            go_wp2_with fail
            refine (acts_two a A14 k14 B D _ HO14.out.1 HO14.out.2 (Kd.C_below HBD.out.1 HB.out) HBD.out.2 HD1.out).mono ?_
            rintro e w45 ⟨rfl, hb⟩
            replace HB := Aside.mk (HB.out.trans (hb.mono HB.out.size))
            clear hb f0 f1 f2 f3 u0 u1 u2 u3 a0x a1x a2x a3x b0x b1x b2x b3x
            go_wp2_with (go_at_call 28; refine (slive_ _ (HW.out.below HB.out)).mono ?_; rintro e w9 ⟨rfl, hb⟩; replace HB := Aside.mk (HB.out.trans (hb.mono HB.out.size)); clear hb)
            go_ret
            exact ⟨rfl, HB.out⟩
end Go.Proofs.YtabcdcnnamflfaaDoor.Wd
