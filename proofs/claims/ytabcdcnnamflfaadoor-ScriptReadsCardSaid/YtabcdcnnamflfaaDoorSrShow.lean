/- The reference's text of a script that was read: walked. -/
import Derived.Test.YtabcdcnnamflfaaDoorSrA
import Derived.Test.YtabcdcnnamflfaaDoorScE
import Derived.RegionTactic
import Derived.BigRegion
set_option linter.unusedVariables false
set_option linter.unusedSimpArgs false
set_option maxRecDepth 100000
namespace Go.Proofs.YtabcdcnnamflfaaDoor.Wd
open Go.RowKit Go.Proofs.YtabcdcnnamflfaaDoorW.PrintWords Go.Proofs.YtabcdcnnamflfaaDoorW.PrintLast Go.Proofs.YtabcdcnnamflfaaDoorW.PrintMore
theorem ActC.get {w : World} {ad : Addr} {xs : List Ac} (h : ActC w (some ad) xs) (j : Nat) (hj : j < xs.length) : ∃ B c, w.cell? (ad.add (j * 4)) = some (.int .i64 xs[j].thread) ∧ w.cell? ⟨(ad.add (j * 4)).block, (ad.add (j * 4)).off + 1, none⟩ = some (.int .i64 xs[j].op) ∧ w.cell? ⟨(ad.add (j * 4)).block, (ad.add (j * 4)).off + 2, none⟩ = some (.int .i64 xs[j].n) ∧ w.cell? ⟨(ad.add (j * 4)).block, (ad.add (j * 4)).off + 3, none⟩ = some (.slice B xs[j].data.length c) ∧ xs[j].data.length ≤ c ∧ (Kd.int .i64).C w B xs[j].data.length xs[j].data := by
  obtain ⟨ad2, B, c, e, h2⟩ := h j hj
  injection e with e
  subst e
  exact ⟨B, c, h2⟩
theorem ActC.read {w : World} {ad : Addr} {xs : List Ac} (h : ActC w (some ad) xs) {j : Nat} {x : Ac} (hx : xs[j]? = some x) : ∃ B c, w.cell? (ad.add (j * 4)) = some (.int .i64 x.thread) ∧ w.cell? ⟨(ad.add (j * 4)).block, (ad.add (j * 4)).off + 1, none⟩ = some (.int .i64 x.op) ∧ w.cell? ⟨(ad.add (j * 4)).block, (ad.add (j * 4)).off + 2, none⟩ = some (.int .i64 x.n) ∧ w.cell? ⟨(ad.add (j * 4)).block, (ad.add (j * 4)).off + 3, none⟩ = some (.slice B x.data.length c) ∧ x.data.length ≤ c ∧ (Kd.int .i64).C w B x.data.length x.data := by
  obtain ⟨hj, e⟩ := List.getElem?_eq_some_iff.1 hx
  subst e
  exact h.get j hj
theorem i2 {i n : Nat} (h : i + n < 4611686018427387904) : wrap64 ((i : Int) + (n : Int)) = (i : Int) + (n : Int) := by unfold wrap64; omega
theorem clean_read {l : List UInt8} (h : resA l = true) : cleanA (valA l) = true := by
  have hr := act_read_line h
  cases hc : cleanA (valA l) with
  | true => rfl
  | false =>
    have e : actT (valA l) (cntA l) = [] := by unfold actT; rw [if_neg (by rw [hc]; decide)]
    rw [e] at hr
    subst hr
    exact absurd h (by decide)
/-- What stands at the head of a block, and what follows it. -/
structure Blk (xs : List Ac) (i k : Nat) (x : Ac) : Prop where
  pos : 1 ≤ k
  top : k ≤ 1000
  one : x.op ≠ 0 → k = 1
  fit : i + k ≤ xs.length
  same : ∀ n (h : n < k), xs[i + n]? = some x
  stop : k < 1000 → x.op = 0 → ∀ y, xs[i + k]? = some y → ¬ (y.op = 0 ∧ y.thread = x.thread)
theorem blk_of {ls : List (List UInt8)} {s : PS} (h : runL ps0 ls = some s) (j : Nat) (hj : j < ls.length) : ∃ a, runL ps0 (ls.take j) = some a ∧ resA ls[j] = true ∧ ∃ k : Nat, cntA ls[j] = (k : Int) ∧ Blk s.acts a.acts.length k (valA ls[j]) ∧ ∃ b, runL ps0 (ls.take (j + 1)) = some b ∧ b.acts.length = a.acts.length + k := by
  obtain ⟨a, h1, h2, rest, h3, h4⟩ := run_block h j hj
  obtain ⟨c1, c2, c3⟩ := cntA_one h2
  obtain ⟨k, hk⟩ : ∃ k : Nat, cntA ls[j] = (k : Int) := ⟨(cntA ls[j]).toNat, by omega⟩
  have hkn : (cntA ls[j]).toNat = k := by omega
  rw [hkn] at h3
  refine ⟨a, h1, h2, k, hk, ⟨by omega, by omega, fun ho => by have := c3 ho; omega, ?_, ?_, ?_⟩, ?_⟩
  · rw [h3]; simp
  · intro n hn
    rw [h3, List.getElem?_append_right (by omega), List.getElem?_append_left (by rw [List.length_replicate]; omega), show a.acts.length + n - a.acts.length = n by omega, List.getElem?_replicate, if_pos hn]
  · intro hk1 ho y hy
    rw [h3, List.getElem?_append_right (by omega), List.getElem?_append_right (by rw [List.length_replicate]; omega), List.length_replicate, show a.acts.length + k - a.acts.length - k = 0 by omega] at hy
    rcases h4 with ⟨_, h4⟩ | ⟨x, r, h4, h5⟩
    · rw [h4] at hy; cases hy
    · rw [h4] at hy
      injection hy with hy
      subst hy
      exact h5 (by omega) ho
  · obtain ⟨b, hb⟩ := run_pre h (j + 1)
    have h6 := runL_succ ps0 ls j hj
    rw [hb, h1] at h6
    obtain ⟨_, g2, _⟩ := stepL_some (show stepL a ls[j] = some b from h6.symm)
    exact ⟨b, hb, by rw [g2, List.length_append, List.length_replicate, hkn]⟩
theorem text_cons (l : List UInt8) (ls : List (List UInt8)) (j : Nat) (hj : j < ls.length) : textOf (l :: ls.take (j + 1)) = textOf (l :: ls.take j) ++ (ls[j] ++ [10]) := by
  rw [List.take_succ_eq_append_getElem hj, ← List.cons_append, textOf_snoc]
theorem text_part (l : List UInt8) (ls : List (List UInt8)) (j : Nat) : (textOf (l :: ls.take j)).length ≤ (textOf (l :: ls)).length := by
  conv => rhs; rw [← List.take_append_drop j ls]
  simp only [textOf, List.map_cons, List.map_append, List.flatten_cons, List.flatten_append, List.length_append]
  omega
theorem lt3 {i m k n : Nat} (h : m < k) (f : i + k ≤ n) : i + m < n := by omega
theorem lt3i {i m n : Nat} (h : i + m < n) : (i : Int) + (m : Int) < (n : Int) := by omega
theorem ge3i {i m n : Nat} (h : ¬ i + m < n) : ¬ (i : Int) + (m : Int) < (n : Int) := by omega
theorem tn3 (i m : Nat) : ((i : Int) + (m : Int)).toNat = i + m := by omega
theorem tn3m (m : Nat) : ((m : Int) + 1).toNat = m + 1 := by omega
theorem meas {i m n : Nat} (f : i + m ≤ n) (h : 1 ≤ m) : n - (i + m) < n - i := by omega
theorem meas1 {m k : Nat} (h : m < k) : k - (m + 1) < k - m := by omega
theorem measX {n : Nat} {x y : Int} (h : n - x.toNat < n - y.toNat) : n - (intOf (.int .i64 x)).toNat < n - (intOf (.int .i64 y)).toNat := h
theorem measR {n i m : Nat} (ew : wrap64 ((i : Int) + (m : Int)) = (i : Int) + (m : Int)) (f : i + m ≤ n) (h : 1 ≤ m) : n - (intOf (.int .i64 (wrap64 ((i : Int) + (m : Int))))).toNat < n - (intOf (.int .i64 (i : Int))).toNat := by
  refine measX ?_
  rw [ew]
  omega
theorem sz10 : (⟨#[10]⟩ : ByteArray).size = 1 := rfl
theorem cat3 {a b t n : Nat} (h : t ≤ n) (e : t = a + (b + 1)) (hn : n ≤ 65536) : ¬ 9223372036854775807 < a + b ∧ ¬ 9223372036854775807 < a + b + 1 := by omega
theorem lt1k {m k : Nat} (h : m < k) (t : k ≤ 1000) : m < 1000 := by omega
theorem bs10s : (⟨#[10]⟩ : ByteArray) = bs [10] := rfl
set_option maxHeartbeats 8000000 in
theorem rshow_ (w : World) (c : Cf) (A : Option Addr) (C : Nat) (hA : Kd.C (Kd.slice 3 (Kd.int .i64)) w A c.up.length c.up) (hC : c.up.length ≤ C) (hc : CfOk c) (hv : In8 c.variant) (hu : c.up.length ≤ 4000 ∧ ∀ l ∈ c.up, l.length ≤ 4000) (hn : varT c.variant ≠ []) (B : Option Addr) (D : Nat) (ls : List (List UInt8)) (s : PS) (hr : runL ps0 ls = some s) (hB : ActC w B s.acts) (hd : ∀ x ∈ s.acts, x.data.length ≤ 100000) (hl : (textOf (confT c :: ls)).length ≤ 65536) :
    Calls Tryd.prog 39 #[.agg #[.int .i64 c.variant, .int .i64 c.width, .int .i64 c.cap, .int .i64 c.prod, .int .u64 (c.start : Int), .slice A c.up.length C], .slice B s.acts.length D] w fun e w' => e = .returned (.tuple #[.string (bs (textOf (confT c :: ls))), .bool true]) ∧ Below w.heap.size w w' := by
  have HA := Aside.mk (And.intro hA hC)
  have HB := Aside.mk hB
  have HC := Aside.mk (QSc.conf_l2 c hc hv hu)
  have HR := Aside.mk hr
  have HD := Aside.mk hd
  have HL := Aside.mk hl
  have HN := Aside.mk (run_few ls ps0 s (by decide) hr)
  have n1 : (bs (confT c)).toList.isEmpty = false := by
    rw [bs_toList]
    have := (conf_words hn).2.2
    cases h : confT c with
    | nil => exact absurd h this
    | cons x r => rfl
  have H4 := Aside.mk (heap_alloc_new w (.cells #[.int .i64 c.variant, .int .i64 c.width, .int .i64 c.cap, .int .i64 c.prod, .int .u64 (c.start : Int), .slice A c.up.length C] 46))
  have H0 := Aside.mk (below_alloc (Below.refl w.heap.size w) (.cells #[.int .i64 c.variant, .int .i64 c.width, .int .i64 c.cap, .int .i64 c.prod, .int .u64 (c.start : Int), .slice A c.up.length C] 46))
  have cat1 : ¬ 9223372036854775807 < (bs (confT c)).size + (⟨#[10]⟩ : ByteArray).size := by
    have h9 : (textOf (confT c :: ls)).length = (confT c).length + 1 + (textOf ls).length := by simp [textOf]; omega
    rw [bs_size, sz10]; omega
  clear hA hC hc hv hu hn hB hr hd hl
  go_enter Tryd.func39, Tryd.ntmps39
  go_upto_region 1 with (fail)
  generalize w.alloc (.cells #[.int .i64 c.variant, .int .i64 c.width, .int .i64 c.cap, .int .i64 c.prod, .int .u64 (c.start : Int), .slice A c.up.length C] 46) = w2 at *
  obtain ⟨e0, e1, e2, e3, e4, e5⟩ := blk_cell6 H4.out
  go_wp2_with fail
  refine (QSc.sakiaref36_Conf.calls 5000 _ _ _ _ _ A C c.up _ _ (Kd.C_below HA.out.1 H0.out) HA.out.2 HC.out).mono ?_
  rintro e w3 ⟨rfl, hb⟩
  replace H4 := Aside.mk (blk_below H4.out hb)
  replace H0 := Aside.mk (H0.out.trans (hb.mono H0.out.size))
  clear hb e0 e1 e2 e3 e4 e5
  obtain ⟨e0, e1, e2, e3, e4, e5⟩ := blk_cell6 H4.out
  go_wp2_with fail
  refine (QSc.sakiaref36_Conf.calls 5000 _ _ _ _ _ A C c.up _ _ (Kd.C_below HA.out.1 H0.out) HA.out.2 HC.out).mono ?_
  rintro e w4 ⟨rfl, hb⟩
  replace H0 := Aside.mk (H0.out.trans (hb.mono H0.out.size))
  clear hb e0 e1 e2 e3 e4 e5 H4
  go_wp2_with fail
  have HT0 := Aside.mk (show bs (confT c) ++ (⟨#[10]⟩ : ByteArray) = bs (textOf (confT c :: ls.take 0)) by rw [bs10s, bs_append]; simp [textOf])
  generalize bs (confT c) ++ (⟨#[10]⟩ : ByteArray) = T0 at *
  go_loopw [6, 7, 8] (fun t x _ wr => ∃ (j : Nat) (a : PS), j ≤ ls.length ∧ runL ps0 (ls.take j) = some a ∧ t = .string (bs (textOf (confT c :: ls.take j))) ∧ x = .int .i64 a.acts.length ∧ Aside (Below w.heap.size w wr)) (fun _ x _ _ => s.acts.length - (intOf x).toNat)
  case atStart => exact ⟨0, ps0, Nat.zero_le _, rfl, by rw [HT0.out], rfl, H0⟩
  case round =>
    clear H0
    obtain ⟨j, a, hj, ha, rfl, rfl, H⟩ := hrel
    by_cases hlt : j < ls.length
    · obtain ⟨a2, h1, h2, k, h3, h4, b, h5, h6⟩ := blk_of HR.out j hlt
      obtain rfl : a = a2 := by rw [ha] at h1; injection h1
      clear h1
      have HBK := Aside.mk h4
      have HBB := Aside.mk (And.intro h5 h6)
      have HTX := Aside.mk (text_cons (confT c) ls j hlt)
      have HTL := Aside.mk (text_part (confT c) ls (j + 1))
      have HCF := Aside.mk (show QSc.sakiaref36_Clean.f (valA ls[j]).thread (valA ls[j]).op (valA ls[j]).n (valA ls[j]).data = some true by rw [QSc.clean_l, clean_read h2])
      obtain ⟨o1, _, _, _⟩ := valA_ok ls[j]
      have hxm : s.acts[a.acts.length + 0]? = some (valA ls[j]) := h4.same 0 h4.pos
      have HDX := Aside.mk (HD.out _ (List.mem_of_getElem? hxm))
      have HAF := Aside.mk (show QSc.sakiaref36_Act.f (valA ls[j]).thread (valA ls[j]).op (valA ls[j]).n (valA ls[j]).data (k : Int) = some (bs ls[j]) by
        rw [← h3, QSc.act_l _ o1 HDX.out (cntA ls[j]) ⟨by rw [h3]; have := h4.top; omega, by rw [h3]; have := h4.top; omega⟩, act_read_line h2])
      have HJ := Aside.mk hlt
      clear h2 h3 h4 h5 h6 o1 hj ha
      generalize valA ls[j] = x at *
      generalize ls[j] = lj at *
      generalize a.acts.length = i at *
      generalize textOf (confT c :: ls.take j) = tx at *
      rw [Nat.add_zero] at hxm
      have hil : i < s.acts.length := by have := HBK.out.fit; have := HBK.out.pos; omega
      obtain ⟨ad, _, _, eB, _⟩ := HB.out i hil
      subst eB
      have HXM := Aside.mk hxm
      obtain ⟨B1, c1, a0, a1, a2, a3, hle, hC1⟩ := (HB.out.below H.out).read hxm
      have t1 : decide ((i : Int) < (s.acts.length : Int)) = true := decide_eq_true (by omega)
      have t2 : decide (i < s.acts.length) = true := decide_eq_true hil
      have t3 : (i : Int) < (s.acts.length : Int) := by omega
      clear hxm hlt
      go_wp2_with fail
      refine (QSc.sakiaref36_Clean.calls _ _ _ B1 c1 x.data true _ hC1 hle HCF.out).mono ?_
      rintro e w5 ⟨rfl, hb⟩
      replace H := Aside.mk (H.out.trans (hb.mono H.out.size))
      clear hb a0 a1 a2 a3 hle hC1
      go_wp2_with fail
      go_loopw [8] (fun n wr => ∃ m : Nat, 1 ≤ m ∧ m ≤ k ∧ n = .int .i64 m ∧ Aside (Below w.heap.size w wr)) (fun n _ => k - (intOf n).toNat)
      case atStart => exact ⟨1, Nat.le_refl _, HBK.out.pos, rfl, H⟩
      case round =>
        clear H
        obtain ⟨m, hm1, hm2, rfl, H⟩ := hrel
        obtain ⟨B1, c1, a0, a1, a2, a3, hle, hC1⟩ := (HB.out.below H.out).read HXM.out
        have HRD := Aside.mk (And.intro hle hC1)
        clear hle hC1
        have HM := Aside.mk (And.intro hm1 hm2)
        have ew := i2 (show i + m < 4611686018427387904 by have := HN.out; have := HBK.out.top; omega)
        have fin := HBK.out.fit
        by_cases ho : x.op = 0
        · have o1 : (x.op == 0) = true := by rw [ho]; rfl
          have o2 : decide (x.op = 0) = true := decide_eq_true ho
          have HO0 := Aside.mk ho
          clear ho
          by_cases hk : m < k
          · have := HBK.out.top
            obtain ⟨B2, c2, b0, b1, b2, b3, _, _⟩ := (HB.out.below H.out).read (HBK.out.same m hk)
            have hf := lt3 hk fin
            have h1k := lt1k hk this
            have p1 : decide ((m : Int) < 1000) = true := decide_eq_true (Int.ofNat_lt.2 h1k)
            have p2 : decide (m < 1000) = true := decide_eq_true h1k
            have p3 : decide ((i : Int) + (m : Int) < (s.acts.length : Int)) = true := decide_eq_true (lt3i hf)
            have p4 : decide (i + m < s.acts.length) = true := decide_eq_true hf
            have p5 : (i : Int) + (m : Int) < (s.acts.length : Int) := lt3i hf
            have p6 : ((i : Int) + (m : Int)).toNat = i + m := tn3 i m
            have p7 : (x.thread == x.thread) = true := beq_self_eq_true _
            have em := i1 (Nat.lt_trans h1k (by decide) : m < 4611686018427387904)
            have HMK := Aside.mk hk
            clear hf h1k hk
            clear hm1 hm2 this fin
            go_wp2_with fail
            go_region
            all_goals
              go_wp2_with fail
              go_roundw
              case rel => exact ⟨m + 1, Nat.le_add_left 1 m, HMK.out, by first | rfl | simp, ⟨below_drew1 H.out⟩⟩
              case measure =>
                simp only [intOf, tn3m, Int.toNat_natCast]
                exact meas1 HMK.out
          · obtain rfl : m = k := by omega
            by_cases hk1 : m < 1000
            · have p1 : decide ((m : Int) < 1000) = true := decide_eq_true (by omega)
              have p2 : decide (m < 1000) = true := decide_eq_true hk1
              by_cases hfl : i + m < s.acts.length
              · have p3 : decide ((i : Int) + (m : Int) < (s.acts.length : Int)) = true := decide_eq_true (lt3i hfl)
                have p4 : decide (i + m < s.acts.length) = true := decide_eq_true hfl
                have p5 : (i : Int) + (m : Int) < (s.acts.length : Int) := lt3i hfl
                have p6 : ((i : Int) + (m : Int)).toNat = i + m := tn3 i m
                obtain ⟨y, hy⟩ : ∃ y, s.acts[i + m]? = some y := ⟨_, List.getElem?_eq_getElem hfl⟩
                have hns := HBK.out.stop hk1 HO0.out y hy
                obtain ⟨B2, c2, b0, b1, b2, b3, _, _⟩ := (HB.out.below H.out).read hy
                clear hy hk hk1 hfl hm1 hm2 fin
                by_cases hyo : y.op = 0
                · have q1 : (y.op == 0) = true := by rw [hyo]; rfl
                  have q2 : (y.thread == x.thread) = false := by simpa using fun h => hns ⟨hyo, h⟩
                  have q3 : decide (y.thread = x.thread) = false := decide_eq_false (fun h => hns ⟨hyo, h⟩)
                  clear hns hyo
                  go_wp2_with fail
                  go_region
                  all_goals
                    go_wp2_with fail
                    refine (QSc.sakiaref36_Act.calls _ _ _ B1 c1 x.data (m : Int) (bs lj) _ (Kd.C_below HRD.out.2 (below_drew1 (Below.refl _ _))) HRD.out.1 HAF.out).mono ?_
                    rintro e w7 ⟨rfl, hb⟩
                    replace H := Aside.mk ((below_drew1 H.out).trans (hb.mono (below_drew1 H.out).size))
                    clear hb a0 a1 a2 a3 cat1
                    obtain ⟨hcat', hcat2'⟩ := cat3 HTL.out (by rw [HTX.out, List.length_append, List.length_append]; rfl) HL.out
                    have hcat : ¬ 9223372036854775807 < (bs tx).size + (bs lj).size := by rw [bs_size, bs_size]; exact hcat'
                    have hcat2 : ¬ 9223372036854775807 < (bs tx).size + (bs lj).size + (⟨#[10]⟩ : ByteArray).size := by rw [bs_size, bs_size, sz10]; exact hcat2'
                    clear hcat' hcat2'
                    go_wp2_with fail
                    go_roundw
                    case rel => exact ⟨j + 1, b, HJ.out, HBB.out.1, by rw [bs10s, bs_append, bs_append, HTX.out, List.append_assoc], by first | (rw [HBB.out.2, ew]; exact congrArg (Value.int .i64) (Int.natCast_add i m).symm) | (rw [HBB.out.2]; exact congrArg (Value.int .i64) (Int.natCast_add i m).symm), H⟩
                    case measure => exact measR ew HBK.out.fit HM.out.1
                · have q1 : (y.op == 0) = false := by simpa using hyo
                  have q2 : decide (y.op = 0) = false := decide_eq_false hyo
                  clear hns
                  go_wp2_with fail
                  go_region
                  all_goals
                    go_wp2_with fail
                    refine (QSc.sakiaref36_Act.calls _ _ _ B1 c1 x.data (m : Int) (bs lj) _ (Kd.C_below HRD.out.2 (below_drew1 (Below.refl _ _))) HRD.out.1 HAF.out).mono ?_
                    rintro e w7 ⟨rfl, hb⟩
                    replace H := Aside.mk ((below_drew1 H.out).trans (hb.mono (below_drew1 H.out).size))
                    clear hb a0 a1 a2 a3 cat1
                    obtain ⟨hcat', hcat2'⟩ := cat3 HTL.out (by rw [HTX.out, List.length_append, List.length_append]; rfl) HL.out
                    have hcat : ¬ 9223372036854775807 < (bs tx).size + (bs lj).size := by rw [bs_size, bs_size]; exact hcat'
                    have hcat2 : ¬ 9223372036854775807 < (bs tx).size + (bs lj).size + (⟨#[10]⟩ : ByteArray).size := by rw [bs_size, bs_size, sz10]; exact hcat2'
                    clear hcat' hcat2'
                    go_wp2_with fail
                    go_roundw
                    case rel => exact ⟨j + 1, b, HJ.out, HBB.out.1, by rw [bs10s, bs_append, bs_append, HTX.out, List.append_assoc], by first | (rw [HBB.out.2, ew]; exact congrArg (Value.int .i64) (Int.natCast_add i m).symm) | (rw [HBB.out.2]; exact congrArg (Value.int .i64) (Int.natCast_add i m).symm), H⟩
                    case measure => exact measR ew HBK.out.fit HM.out.1
              · have p3 : decide ((i : Int) + (m : Int) < (s.acts.length : Int)) = false := decide_eq_false (ge3i hfl)
                have p4 : decide (i + m < s.acts.length) = false := decide_eq_false hfl
                clear hk hk1 hfl hm1 hm2 fin
                go_wp2_with fail
                go_region
                all_goals
                  go_wp2_with fail
                  refine (QSc.sakiaref36_Act.calls _ _ _ B1 c1 x.data (m : Int) (bs lj) _ (Kd.C_below HRD.out.2 (below_drew1 (Below.refl _ _))) HRD.out.1 HAF.out).mono ?_
                  rintro e w7 ⟨rfl, hb⟩
                  replace H := Aside.mk ((below_drew1 H.out).trans (hb.mono (below_drew1 H.out).size))
                  clear hb a0 a1 a2 a3 cat1
                  obtain ⟨hcat', hcat2'⟩ := cat3 HTL.out (by rw [HTX.out, List.length_append, List.length_append]; rfl) HL.out
                  have hcat : ¬ 9223372036854775807 < (bs tx).size + (bs lj).size := by rw [bs_size, bs_size]; exact hcat'
                  have hcat2 : ¬ 9223372036854775807 < (bs tx).size + (bs lj).size + (⟨#[10]⟩ : ByteArray).size := by rw [bs_size, bs_size, sz10]; exact hcat2'
                  clear hcat' hcat2'
                  go_wp2_with fail
                  go_roundw
                  case rel => exact ⟨j + 1, b, HJ.out, HBB.out.1, by rw [bs10s, bs_append, bs_append, HTX.out, List.append_assoc], by first | (rw [HBB.out.2, ew]; exact congrArg (Value.int .i64) (Int.natCast_add i m).symm) | (rw [HBB.out.2]; exact congrArg (Value.int .i64) (Int.natCast_add i m).symm), H⟩
                  case measure => exact measR ew HBK.out.fit HM.out.1
            · have p1 : decide ((m : Int) < 1000) = false := decide_eq_false (fun h => hk1 (Int.ofNat_lt.1 h))
              have p2 : decide (m < 1000) = false := decide_eq_false hk1
              clear hk hk1 hm1 hm2 fin
              go_wp2_with fail
              go_region
              all_goals
                go_wp2_with fail
                refine (QSc.sakiaref36_Act.calls _ _ _ B1 c1 x.data (m : Int) (bs lj) _ (Kd.C_below HRD.out.2 (below_drew1 (Below.refl _ _))) HRD.out.1 HAF.out).mono ?_
                rintro e w7 ⟨rfl, hb⟩
                replace H := Aside.mk ((below_drew1 H.out).trans (hb.mono (below_drew1 H.out).size))
                clear hb a0 a1 a2 a3 cat1
                obtain ⟨hcat', hcat2'⟩ := cat3 HTL.out (by rw [HTX.out, List.length_append, List.length_append]; rfl) HL.out
                have hcat : ¬ 9223372036854775807 < (bs tx).size + (bs lj).size := by rw [bs_size, bs_size]; exact hcat'
                have hcat2 : ¬ 9223372036854775807 < (bs tx).size + (bs lj).size + (⟨#[10]⟩ : ByteArray).size := by rw [bs_size, bs_size, sz10]; exact hcat2'
                clear hcat' hcat2'
                go_wp2_with fail
                go_roundw
                case rel => exact ⟨j + 1, b, HJ.out, HBB.out.1, by rw [bs10s, bs_append, bs_append, HTX.out, List.append_assoc], by first | (rw [HBB.out.2, ew]; exact congrArg (Value.int .i64) (Int.natCast_add i m).symm) | (rw [HBB.out.2]; exact congrArg (Value.int .i64) (Int.natCast_add i m).symm), H⟩
                case measure => exact measR ew HBK.out.fit HM.out.1
        · have o1 : (x.op == 0) = false := by simpa using ho
          have o2 : decide (x.op = 0) = false := decide_eq_false ho
          obtain rfl : m = k := by have := HBK.out.one ho; omega
          clear hm1 hm2 fin
          go_wp2_with fail
          go_region
          all_goals
            go_wp2_with fail
            refine (QSc.sakiaref36_Act.calls _ _ _ B1 c1 x.data (m : Int) (bs lj) _ (Kd.C_below HRD.out.2 (below_drew1 (Below.refl _ _))) HRD.out.1 HAF.out).mono ?_
            rintro e w7 ⟨rfl, hb⟩
            replace H := Aside.mk ((below_drew1 H.out).trans (hb.mono (below_drew1 H.out).size))
            clear hb a0 a1 a2 a3 cat1
            obtain ⟨hcat', hcat2'⟩ := cat3 HTL.out (by rw [HTX.out, List.length_append, List.length_append]; rfl) HL.out
            have hcat : ¬ 9223372036854775807 < (bs tx).size + (bs lj).size := by rw [bs_size, bs_size]; exact hcat'
            have hcat2 : ¬ 9223372036854775807 < (bs tx).size + (bs lj).size + (⟨#[10]⟩ : ByteArray).size := by rw [bs_size, bs_size, sz10]; exact hcat2'
            clear hcat' hcat2'
            go_wp2_with fail
            go_roundw
            case rel => exact ⟨j + 1, b, HJ.out, HBB.out.1, by rw [bs10s, bs_append, bs_append, HTX.out, List.append_assoc], by first | (rw [HBB.out.2, ew]; exact congrArg (Value.int .i64) (Int.natCast_add i m).symm) | (rw [HBB.out.2]; exact congrArg (Value.int .i64) (Int.natCast_add i m).symm), H⟩
            case measure => exact measR ew HBK.out.fit HM.out.1
    · obtain rfl : j = ls.length := by omega
      rw [List.take_length] at *
      obtain rfl : a = s := by have := HR.out; rw [ha] at this; injection this
      have t1 : decide ((a.acts.length : Int) < (a.acts.length : Int)) = false := decide_eq_false (by omega)
      have t2 : decide (a.acts.length < a.acts.length) = false := decide_eq_false (by omega)
      clear ha hj hlt
      go_wp2
      go_ret2
      exact ⟨rfl, H.out⟩
end Go.Proofs.YtabcdcnnamflfaaDoor.Wd
