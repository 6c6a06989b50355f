/- The program's words: lists shown, lines cut, texts that are the same. Asked: the library's variables lie as laid. -/
import Derived.Test.YtabcdcnnamflfaaDoorWdD
set_option linter.unusedVariables false
set_option linter.unusedSimpArgs false
set_option maxRecDepth 100000
namespace Go.Proofs.YtabcdcnnamflfaaDoor.Wd
open Go.RowKit Go.Proofs.YtabcdcnnamflfaaDoorW.PrintWords Go.Proofs.YtabcdcnnamflfaaDoorW.PrintLast Go.Proofs.YtabcdcnnamflfaaDoorW.PrintMore
set_option maxHeartbeats 4000000 in
theorem same_txt {w : World} {A B : Option Addr} {c d : Nat} {xs ys : List (List UInt8)} (hx : Txts w A xs) (hy : Txts w B ys) (hl : xs.length ≤ 1000001) :
    Calls Tryd.prog 15 #[.slice A xs.length c, .slice B ys.length d] w fun e w' => e = .returned (.bool (xs == ys)) ∧ Below w.heap.size w w' := by
  by_cases hlen : xs.length = ys.length
  rotate_left
  · have t1 : ((xs.length : Int) != (ys.length : Int)) = true := by rw [bne_iff_ne]; omega
    have t2 : (xs.length != ys.length) = true := by rw [bne_iff_ne]; omega
    have HF := Aside.mk (show (xs == ys) = false by rw [beq_eq_false_iff_ne]; intro e; rw [e] at hlen; exact hlen rfl)
    clear hlen
    go_enter Tryd.func15, Tryd.ntmps15
    go_wp2
    go_ret
    exact ⟨by rw [HF.out]; rfl, Below.refl _ _⟩
  · have t1 : ((xs.length : Int) != (ys.length : Int)) = false := by rw [bne_eq_false_iff_eq]; omega
    have t2 : (xs.length != ys.length) = false := by rw [bne_eq_false_iff_eq]; omega
    have HLE := Aside.mk hlen
    have HX0 := Aside.mk hx
    have HY0 := Aside.mk hy
    have HB0 := Aside.mk (Below.refl w.heap.size w)
    have HLB := Aside.mk hl
    clear hlen hx hy hl
    go_enter Tryd.func15, Tryd.ntmps15
    go_wp2_with fail
    clear t1 t2
    go_loopw [5] (fun x wr => ∃ i : Nat, i ≤ xs.length ∧ x = .int .i64 i ∧ Aside (xs.take i = ys.take i) ∧ Aside (Below w.heap.size w wr)) (fun x _ => xs.length - (intOf x).toNat)
    case atStart => exact ⟨0, Nat.zero_le _, rfl, ⟨rfl⟩, HB0⟩
    case round =>
      clear HB0
      obtain ⟨i, hi, rfl, HT, HB⟩ := hrel
      by_cases hlt : i < xs.length
      · have t1 : decide ((i : Int) < (xs.length : Int)) = true := decide_eq_true (by omega)
        have t2 : decide (i < xs.length) = true := decide_eq_true hlt
        have t3 : (i : Int) < (xs.length : Int) := by omega
        have hly : i < ys.length := by have := HLE.out; omega
        have t4 : (i : Int) < (ys.length : Int) := by omega
        have HI := Aside.mk hlt
        have ei := i1 (show i < 4611686018427387904 by have := HLB.out; omega)
        obtain ⟨a1, rfl, hx1⟩ := (HX0.out.below HB.out).at i hlt
        obtain ⟨a2, rfl, hy1⟩ := (HY0.out.below HB.out).at i hly
        have HTX := Aside.mk (List.take_succ_eq_append_getElem hlt)
        have HTY := Aside.mk (List.take_succ_eq_append_getElem hly)
        have hne : xs[i] ≠ ys[i] → (xs == ys) = false := fun hn => by
          rw [beq_eq_false_iff_ne]; intro e; subst e; exact hn rfl
        generalize xs[i] = x at *
        generalize ys[i] = y at *
        by_cases he : x = y
        · have q1 : ((bs x).toList == (bs y).toList) = true := by rw [str_eq, decide_eq_true he]
          have HN := Aside.mk (show xs.take (i + 1) = ys.take (i + 1) by rw [HTX.out, HTY.out, HT.out, he])
          clear he hne hi hlt hly
          go_wp2_with fail
          go_quiet (fail)
          generalize hW : World.drewN wr _ = w5
          have HB5 := Aside.mk (show Below w.heap.size w w5 from hW ▸ pw_below_drewN HB.out _)
          clear hW
          go_wp2
          go_roundw
          case rel => exact ⟨i + 1, HI.out, by first | rfl | simp, HN, HB5⟩
          case measure =>
            have := HI.out
            have e9 : ((i : Int) + 1).toNat = i + 1 := by omega
            simp only [intOf, e9, Int.toNat_natCast]
            omega
        · have q1 : ((bs x).toList == (bs y).toList) = false := by rw [str_eq, decide_eq_false he]
          have HF := Aside.mk (hne he)
          clear he hne hi hlt hly
          go_wp2_with fail
          go_quiet (fail)
          generalize hW : World.drewN wr _ = w5
          have HB5 := Aside.mk (show Below w.heap.size w w5 from hW ▸ pw_below_drewN HB.out _)
          clear hW
          go_wp2
          go_ret
          exact ⟨by rw [HF.out]; rfl, HB5.out⟩
      · have t1 : decide ((i : Int) < (xs.length : Int)) = false := decide_eq_false (by omega)
        have t2 : decide (i < xs.length) = false := decide_eq_false hlt
        have HE := Aside.mk (show (xs == ys) = true by
          have := HT.out
          rw [List.take_of_length_le (by omega), List.take_of_length_le (by have := HLE.out; omega)] at this
          rw [this]; simp)
        clear hlt hi
        go_wp2
        go_ret
        exact ⟨by rw [HE.out]; rfl, HB.out⟩
set_option maxHeartbeats 4000000 in
theorem same_int {w : World} {A B : Option Addr} {c d : Nat} {xs ys : List Int} (hx : Kd.C (Kd.int .i64) w A xs.length xs) (hy : Kd.C (Kd.int .i64) w B ys.length ys) (hl : xs.length ≤ 1000001) :
    Calls Tryd.prog 36 #[.slice A xs.length c, .slice B ys.length d] w fun e w' => e = .returned (.bool (xs == ys)) ∧ Below w.heap.size w w' := by
  by_cases hlen : xs.length = ys.length
  rotate_left
  · have t1 : ((xs.length : Int) != (ys.length : Int)) = true := by rw [bne_iff_ne]; omega
    have t2 : (xs.length != ys.length) = true := by rw [bne_iff_ne]; omega
    have HF := Aside.mk (show (xs == ys) = false by rw [beq_eq_false_iff_ne]; intro e; rw [e] at hlen; exact hlen rfl)
    clear hlen
    go_enter Tryd.func36, Tryd.ntmps36
    go_wp2
    go_ret
    exact ⟨by rw [HF.out]; rfl, Below.refl _ _⟩
  · have t1 : ((xs.length : Int) != (ys.length : Int)) = false := by rw [bne_eq_false_iff_eq]; omega
    have t2 : (xs.length != ys.length) = false := by rw [bne_eq_false_iff_eq]; omega
    have HLE := Aside.mk hlen
    have HX0 := Aside.mk hx
    have HY0 := Aside.mk hy
    have HB0 := Aside.mk (Below.refl w.heap.size w)
    have HLB := Aside.mk hl
    clear hlen hx hy hl
    go_enter Tryd.func36, Tryd.ntmps36
    go_wp2_with fail
    clear t1 t2
    go_loopw [5] (fun x wr => ∃ i : Nat, i ≤ xs.length ∧ x = .int .i64 i ∧ Aside (xs.take i = ys.take i) ∧ Aside (Below w.heap.size w wr)) (fun x _ => xs.length - (intOf x).toNat)
    case atStart => exact ⟨0, Nat.zero_le _, rfl, ⟨rfl⟩, HB0⟩
    case round =>
      clear HB0
      obtain ⟨i, hi, rfl, HT, HB⟩ := hrel
      by_cases hlt : i < xs.length
      · have t1 : decide ((i : Int) < (xs.length : Int)) = true := decide_eq_true (by omega)
        have t2 : decide (i < xs.length) = true := decide_eq_true hlt
        have t3 : (i : Int) < (xs.length : Int) := by omega
        have hly : i < ys.length := by have := HLE.out; omega
        have t4 : (i : Int) < (ys.length : Int) := by omega
        have HI := Aside.mk hlt
        have ei := i1 (show i < 4611686018427387904 by have := HLB.out; omega)
        obtain ⟨a1, rfl, hx1⟩ := num_at (Kd.C_below HX0.out HB.out) i hlt hlt
        obtain ⟨a2, rfl, hy1⟩ := num_at (Kd.C_below HY0.out HB.out) i hly hly
        have HTX := Aside.mk (List.take_succ_eq_append_getElem hlt)
        have HTY := Aside.mk (List.take_succ_eq_append_getElem hly)
        have hne : xs[i] ≠ ys[i] → (xs == ys) = false := fun hn => by
          rw [beq_eq_false_iff_ne]; intro e; subst e; exact hn rfl
        generalize xs[i] = x at *
        generalize ys[i] = y at *
        by_cases he : x = y
        · have q1 : (x != y) = false := by rw [bne_eq_false_iff_eq]; exact he
          have HN := Aside.mk (show xs.take (i + 1) = ys.take (i + 1) by rw [HTX.out, HTY.out, HT.out, he])
          clear he hne hi hlt hly
          go_wp2_with fail
          go_quiet (fail)
          generalize hW : World.drewN wr _ = w5
          have HB5 := Aside.mk (show Below w.heap.size w w5 from hW ▸ pw_below_drewN HB.out _)
          clear hW
          go_wp2
          go_roundw
          case rel => exact ⟨i + 1, HI.out, by first | rfl | simp, HN, HB5⟩
          case measure =>
            have := HI.out
            have e9 : ((i : Int) + 1).toNat = i + 1 := by omega
            simp only [intOf, e9, Int.toNat_natCast]
            omega
        · have q1 : (x != y) = true := by rw [bne_iff_ne]; exact he
          have HF := Aside.mk (hne he)
          clear he hne hi hlt hly
          go_wp2_with fail
          go_quiet (fail)
          generalize hW : World.drewN wr _ = w5
          have HB5 := Aside.mk (show Below w.heap.size w w5 from hW ▸ pw_below_drewN HB.out _)
          clear hW
          go_wp2
          go_ret
          exact ⟨by rw [HF.out]; rfl, HB5.out⟩
      · have t1 : decide ((i : Int) < (xs.length : Int)) = false := decide_eq_false (by omega)
        have t2 : decide (i < xs.length) = false := decide_eq_false hlt
        have HE := Aside.mk (show (xs == ys) = true by
          have := HT.out
          rw [List.take_of_length_le (by omega), List.take_of_length_le (by have := HLE.out; omega)] at this
          rw [this]; simp)
        clear hlt hi
        go_wp2
        go_ret
        exact ⟨by rw [HE.out]; rfl, HB.out⟩
/-! ### rows of texts that one made oneself -/
theorem Own.form {w : World} {base : Nat} {v : Value} {xs : List (List UInt8)} (h : Own w base v xs) : (xs = [] ∧ ∃ A c, v = .slice A 0 c) ∨ (∃ g cap, v = .slice (some ⟨g, 0, none⟩) xs.length cap ∧ xs.length ≤ cap ∧ g < w.heap.size ∧ Txts w (some ⟨g, 0, none⟩) xs ∧ 0 < xs.length) := by
  obtain ⟨h1, ⟨h2, h3⟩ | ⟨g, cap, cur, hv, hg, hb, hc, hm, hs, ht⟩⟩ := Kd.own_of_R h
  · left
    have : xs = [] := List.eq_nil_of_length_eq_zero (by simpa using h3)
    exact ⟨this, _, _, h2⟩
  · by_cases h0 : xs = []
    · left; subst h0
      exact ⟨rfl, _, _, by simpa using hv⟩
    · right
      have hlen : (xs.map bs).length = xs.length := List.length_map ..
      rw [hlen] at hv hc ht
      refine ⟨g, cap, hv, hc, blk_lt hb, fun _ => ⟨g, cur, rfl, hb, fun j hj => ?_⟩, by cases xs with
        | nil => exact absurd rfl h0
        | cons a l => simp⟩
      rw [Nat.mul_one] at ht
      have e := congrArg (fun l : List Value => l[j]?) ht
      simp only [List.getElem?_take, hj, if_true, encs, List.getElem?_map, List.getElem?_eq_getElem hj, Option.map_some] at e
      rwa [Array.getElem?_toList] at e
/-- The library's Join over a row of texts. -/
theorem joinC {w : World} {g cap : Nat} {ws : List (List UInt8)} (c : UInt8) (h : Txts w (some ⟨g, 0, none⟩) ws) (h0 : 0 < ws.length) (hcap : ws.length ≤ cap) (hlen : (Lib.join ws [c]).length ≤ 140737488355328) (hn : ws.length ≤ 140737488355328) :
    Calls Tryd.prog 56 #[.slice (some ⟨g, 0, none⟩) ws.length cap, .string ⟨#[c]⟩] w fun e w' => e = .returned (.string (bs (Lib.join ws [c]))) ∧ Below w.heap.size w w' := by
  have e1 : (ws.map bs).map (·.data.toList) = ws := by rw [List.map_map]; exact (List.map_congr_left (fun x _ => bs_data x)).trans (List.map_id ws)
  have e2 : (ws.map bs).length = ws.length := List.length_map ..
  obtain ⟨g2, cl, eg, hb, hc⟩ := h (fun e => by rw [e] at h0; simp at h0)
  injection eg with eg
  injection eg with eg _ _
  subst eg
  have := Tryd.strings_Join g 0 cap (ws.map bs) ⟨#[c]⟩ w (fun j x hx => by
    rw [List.getElem?_map] at hx
    obtain ⟨y, hy, rfl⟩ := Option.map_eq_some_iff.1 hx
    obtain ⟨hj, rfl⟩ := List.getElem?_eq_some_iff.1 hy
    rw [Nat.zero_add, blk_cell hb]; exact hc j hj) (blk_lt hb) (by rw [e2]; exact hn) (by rw [e2]; exact hcap) (by rw [e1]; exact hlen)
  rw [e1, e2] at this
  exact this
theorem Own.txts {w : World} {base g n cap : Nat} {xs : List (List UInt8)} (h : Own w base (.slice (some ⟨g, 0, none⟩) n cap) xs) (h0 : xs ≠ []) : n = xs.length ∧ xs.length ≤ cap ∧ Txts w (some ⟨g, 0, none⟩) xs := by
  rcases h.form with ⟨e, _⟩ | ⟨g2, cap2, e, h1, _, h2, _⟩
  · exact absurd e h0
  · injection e with e1 e2 e3
    injection e1 with e1
    injection e1 with e1 _ _
    subst e1; subst e2; subst e3
    exact ⟨rfl, h1, h2⟩
set_option maxHeartbeats 4000000 in
theorem showList_ {w : World} {A : Option Addr} {c : Nat} {l : List Int} (hr : Rv w A c l) (hl : l.length ≤ 100000) (hw : LibW w) :
    Calls Tryd.prog 26 #[.slice A l.length c] w fun e w' => e = .returned (.string (bs (listTxt l))) ∧ Below w.heap.size w w' := by
  by_cases h0 : l.length = 0
  · have t1 : ((l.length : Int) == 0) = true := by simpa using h0
    have HL := Aside.mk (List.eq_nil_of_length_eq_zero h0)
    clear h0 hr hw
    go_enter Tryd.func26, Tryd.ntmps26
    go_wp2
    go_ret
    exact ⟨by rw [HL.out]; rfl, Below.refl _ _⟩
  · have t1 : ((l.length : Int) == 0) = false := by simpa using h0
    have HL0 := Aside.mk (show l ≠ [] from fun e => h0 (by rw [e]; rfl))
    have HR := Aside.mk hr
    have HW := Aside.mk hw
    have HB0 := Aside.mk (Below.refl w.heap.size w)
    clear h0 hr hw
    go_enter Tryd.func26, Tryd.ntmps26
    go_wp2_with fail
    clear t1
    go_loopw [3, 11] (fun v x wr => ∃ i : Nat, i ≤ l.length ∧ x = .int .i64 i ∧ Aside (Own wr w.heap.size v ((l.take i).map Lib.itoa)) ∧ Aside (Below w.heap.size w wr)) (fun _ x _ => l.length - (intOf x).toNat)
    case atStart => exact ⟨0, Nat.zero_le _, rfl, ⟨Kd.R_nil _ _ _ _ _⟩, HB0⟩
    case round =>
      clear HB0
      obtain ⟨i, hi, rfl, HO, HB⟩ := hrel
      by_cases hlt : i < l.length
      · have t1 : decide ((i : Int) < (l.length : Int)) = true := decide_eq_true (by omega)
        have t2 : decide (i < l.length) = true := decide_eq_true hlt
        have t3 : (i : Int) < (l.length : Int) := by omega
        have HI := Aside.mk hlt
        have ei := i1 (show i < 4611686018427387904 by omega)
        obtain ⟨a1, rfl, hx⟩ := num_at HR.out.rd i hlt hlt
        have hxw : wr.cell? (a1.add i) = some (.int .i64 l[i]) := (HB.out.cell (World.block_lt_of_cell? _ _ hx)).trans hx
        have hok := HR.out.ok _ (List.getElem_mem hlt)
        have HS := Aside.mk (show (l.take (i + 1)).map Lib.itoa = (l.take i).map Lib.itoa ++ [Lib.itoa l[i]] by rw [List.take_succ_eq_append_getElem hlt, List.map_append, List.map_singleton])
        have HLIM := Aside.mk (show ((l.take i).map Lib.itoa).length ≤ 100000 by simp only [List.length_map, List.length_take]; omega)
        generalize l[i] = n at *
        have HC := Aside.mk (show_ n hok.1 hok.2 wr (HW.out.below HB.out))
        obtain ⟨ws, hws⟩ : ∃ ws, (l.take i).map Lib.itoa = ws := ⟨_, rfl⟩
        rw [hws] at HO HS HLIM
        clear hx hok hi hlt hws
        go_wp2_with (first | (go_at_call 24; refine HC.out.mono ?_; rintro e w3 ⟨rfl, hb⟩; have HB3 := Aside.mk (HB.out.trans (hb.mono HB.out.size)); have HO3 := Aside.mk (Kd.R_below HO.out hb); clear hb) | ((with_reducible refine gate_builtin (b := .append) (xs := #[.tmp 15, .tmp 18]) rfl ?_); at_builtin; refine Kd.R_append Kd.string (w0 := w) w.heap.size rfl (.tmp 15) (.tmp 18) 23 9 (.string ByteArray.empty) 16 rfl Tryd.underlying23 info9 rfl (by decide) (by omega) u3 (ws.map bs) (bs (Lib.itoa n)) [.string (bs (Lib.itoa n))] (fun _ => True) (fun _ => False) rfl rfl ?aP (fun _ hk => hk.elim) ?aF ?aO ?aB ?aS ?aL ?_; (case aP => exact rfl); (case aB => exact HB3.out); (case aF => exact (fun _ _ => trivial)); (case aO => exact HO3.out); (case aS => exact HB3.out.size); (case aL => have := HLIM.out; simp; omega); intro vN wN hoN hbN hgN hatN; have HON := Aside.mk hoN; have HBN := Aside.mk hbN; have HGN := Aside.mk hgN; clear hoN hbN hgN hatN))
        go_roundw
        case rel => exact ⟨i + 1, HI.out, by first | rfl | simp, ⟨by rw [HS.out]; unfold Own; rw [List.map_append]; exact HON.out⟩, HBN⟩
        case measure =>
          have := HI.out
          have e9 : ((i : Int) + 1).toNat = i + 1 := by omega
          simp only [intOf, e9, Int.toNat_natCast]
          omega
      · have t1 : decide ((i : Int) < (l.length : Int)) = false := decide_eq_false (by omega)
        have t2 : decide (i < l.length) = false := decide_eq_false hlt
        obtain rfl : i = l.length := by omega
        rcases HO.out.form with ⟨e, _⟩ | ⟨g, cap, rfl, hc, _, ht, hp⟩
        · exact absurd e (by simpa using HL0.out)
        rw [List.take_length] at hc ht hp ⊢
        have HJ := Aside.mk (joinC 44 ht hp hc (by have := join_bound l HR.out.ok; omega) (by simp only [List.length_map]; omega))
        rw [List.length_map] at HJ
        have HE := Aside.mk (show listTxt l = Lib.join (l.map Lib.itoa) [44] by unfold listTxt; rw [if_neg HL0.out])
        clear hlt hi hc ht hp
        go_wp2_with (go_at_call 56; refine HJ.out.mono ?_; rintro e w5 ⟨rfl, hb⟩)
        go_ret
        exact ⟨by rw [HE.out]; rfl, HB.out.trans (hb.mono HB.out.size)⟩
end Go.Proofs.YtabcdcnnamflfaaDoor.Wd
