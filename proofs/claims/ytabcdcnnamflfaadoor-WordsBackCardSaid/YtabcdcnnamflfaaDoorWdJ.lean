/- The law WordsBack: walked. Asked: the library's variables lie as laid. -/
import Derived.Test.YtabcdcnnamflfaaDoorWdI
set_option linter.unusedVariables false
set_option linter.unusedSimpArgs false
set_option maxRecDepth 100000
namespace Go.Proofs.YtabcdcnnamflfaaDoor.Wd
open Go.RowKit Go.Proofs.YtabcdcnnamflfaaDoorW.PrintWords Go.Proofs.YtabcdcnnamflfaaDoorW.PrintLast Go.Proofs.YtabcdcnnamflfaaDoorW.PrintMore
theorem join_none (A : Option Addr) (c : Nat) (w : World) : Calls Tryd.prog 37 #[.slice A 0 c] w fun e w' => e = .returned (.string (bs [])) ∧ Below w.heap.size w w' := by
  have H := Aside.mk (Tryd.strings_Join_none A c ⟨#[32]⟩ w)
  go_enter Tryd.func37, Tryd.ntmps37
  go_wp2_with (go_at_call 56; refine H.out.mono ?_; rintro e w' ⟨rfl, rfl⟩)
  go_ret
  exact ⟨rfl, Below.refl _ _⟩
set_option maxHeartbeats 8000000 in
theorem walkBack (A : Option Addr) (c : Nat) (l : List Int) (x : Nat) (hx : x < 18446744073709551616) (s : ByteArray) (w : World) (hr : Rv w A c l) (hw : LibW w) :
    Calls Tryd.prog 7 #[.slice A l.length c, .int .u64 x, .string s] w fun e w' => e = .returned (.bool true) ∧ Below w.heap.size w w' := by
  have HW := Aside.mk hw
  have HR := Aside.mk hr
  have HB := Aside.mk (Below.refl w.heap.size w)
  by_cases hbig : 300 < l.length
  · have t1 : decide ((300 : Int) < (l.length : Int)) = true := decide_eq_true (by omega)
    have t2 : decide (300 < l.length) = true := decide_eq_true hbig
    clear hw hr hbig
    go_enter Tryd.func7, Tryd.ntmps7
    go_wp2_with (go_at_call 11; refine (live_ _ (HW.out.below HB.out)).mono ?_; rintro e w9 ⟨rfl, hb⟩; replace HB := Aside.mk (HB.out.trans (hb.mono HB.out.size)); clear hb)
    go_ret
    exact ⟨rfl, HB.out⟩
  have t1 : decide ((300 : Int) < (l.length : Int)) = false := decide_eq_false (by omega)
  have t2 : decide (300 < l.length) = false := decide_eq_false hbig
  by_cases hbig2 : 5000 < s.size
  · have t3 : decide ((5000 : Int) < (s.size : Int)) = true := decide_eq_true (by omega)
    have t4 : decide (5000 < s.size) = true := decide_eq_true hbig2
    clear hw hr hbig hbig2
    go_enter Tryd.func7, Tryd.ntmps7
    go_wp2_with (go_at_call 11; refine (live_ _ (HW.out.below HB.out)).mono ?_; rintro e w9 ⟨rfl, hb⟩; replace HB := Aside.mk (HB.out.trans (hb.mono HB.out.size)); clear hb)
    go_ret
    exact ⟨rfl, HB.out⟩
  have t3 : decide ((5000 : Int) < (s.size : Int)) = false := decide_eq_false (by omega)
  have t4 : decide (5000 < s.size) = false := decide_eq_false hbig2
  have HS := Aside.mk (show s.size ≤ 5000 by omega)
  have HL := Aside.mk (show l.length ≤ 300 by omega)
  have HX := Aside.mk hx
  clear hw hr hbig hbig2 hx
  go_enter Tryd.func7, Tryd.ntmps7
  go_wp2_with fail
  clear t1 t2 t3 t4
  refine (showList_ HR.out (by have := HL.out; omega) HW.out).mono ?_
  rintro e w1 ⟨rfl, hb⟩
  replace HB := Aside.mk hb
  clear hb
  go_wp2_with fail
  refine (list_w (bs (listTxt l)) (by
    rw [bs_size]; unfold listTxt
    split
    · simp
    · have := join_bound l HR.out.ok; have := HL.out; omega) w1 (HW.out.below HB.out)).mono ?_
  rw [bs_data]
  rintro e w2 ⟨hlr, hb⟩
  replace HB := Aside.mk (HB.out.trans (hb.mono HB.out.size))
  clear hb
  rcases hlr with ⟨h, _⟩ | ⟨l2, v, h, _, hO, rfl⟩
  · rw [listOf_txt l HR.out.ok] at h; cases h
  rw [listOf_txt l HR.out.ok] at h
  injection h with h
  subst h
  obtain ⟨A2, c2, rfl, h21, h22⟩ := Kd.R_reads hO
  have HM := Aside.mk h22
  have HC := Aside.mk (Below.refl w2.heap.size w2)
  clear hO h21 h22
  go_wp2_with fail
  refine (showBig_ x HX.out w2 (HW.out.below HB.out)).mono ?_
  rintro e w3 ⟨rfl, hb⟩
  replace HC := Aside.mk (HC.out.trans (hb.mono HC.out.size))
  replace HB := Aside.mk (HB.out.trans (hb.mono HB.out.size))
  clear hb
  go_wp2_with fail
  refine (big_w (bs (Lib.decDigits x)) (by rw [bs_size]; have := dec_len x HX.out; omega) w3 (HW.out.below HB.out)).mono ?_
  rw [bs_data, bigOf_dec x HX.out]
  rintro e w4 ⟨rfl, hb⟩
  replace HC := Aside.mk (HC.out.trans (hb.mono HC.out.size))
  replace HB := Aside.mk (HB.out.trans (hb.mono HB.out.size))
  clear hb
  have q1 := eqB x
  go_wp2_with fail
  refine (same_int (c := c2) (d := c) (Kd.C_below HM.out HC.out) (Kd.C_below HR.out.rd HB.out) (by have := HL.out; omega)).mono ?_
  rw [beq_self_eq_true]
  rintro e w5 ⟨rfl, hb⟩
  replace HB := Aside.mk (HB.out.trans (hb.mono HB.out.size))
  clear hb HC HM q1
  by_cases h0 : l.length = 0
  · have t1 : decide ((0 : Int) < (l.length : Int)) = false := decide_eq_false (by omega)
    have t2 : decide (0 < l.length) = false := decide_eq_false (by omega)
    have hle : l = [] := List.eq_nil_of_length_eq_zero h0
    subst hle
    clear h0
    go_wp2_with fail
    refine (split_w s (by have := HS.out; omega) _ (HW.out.below HB.out)).mono ?_
    rintro e w8 ⟨hsr, hb⟩
    replace HB := Aside.mk (HB.out.trans (hb.mono HB.out.size))
    clear hb
    rcases hsr with ⟨h1, rfl⟩ | ⟨_, _, rfl⟩ | ⟨h1, h2, A, c, rfl, hc, ht⟩
    · rw [size_len] at h1; exact absurd h1 (by have := HS.out; omega)
    · go_wp2_with (go_at_call 11; refine (live_ _ (HW.out.below HB.out)).mono ?_; rintro e w9 ⟨rfl, hb⟩; replace HB := Aside.mk (HB.out.trans (hb.mono HB.out.size)); clear hb)
      go_ret
      exact ⟨rfl, HB.out⟩
    · by_cases he : s.data.toList = []
      · have hwo : wordsOf s.data.toList = [] := by unfold wordsOf; rw [if_pos he]
        rw [hwo] at hc ht ⊢
        have HJ := Aside.mk (join_none A c w8)
        have qj := str_s s [] he.symm
        clear h1 h2 hc ht he hwo
        go_wp2_with (first | (go_at_call 37; refine HJ.out.mono ?_; rintro e w9 ⟨rfl, hb⟩; replace HB := Aside.mk (HB.out.trans (hb.mono HB.out.size)); clear hb) | (go_at_call 11; refine (live_ _ (HW.out.below HB.out)).mono ?_; rintro e w9 ⟨rfl, hb⟩; replace HB := Aside.mk (HB.out.trans (hb.mono HB.out.size)); clear hb))
        go_ret
        exact ⟨rfl, HB.out⟩
      · have hwo : wordsOf s.data.toList = sp 32 s.data.toList := by unfold wordsOf; rw [if_neg he]
        rw [hwo] at hc ht ⊢
        have hne := sp_ne 32 s.data.toList
        have hcn := sp_count 32 s.data.toList
        have hj := join_sp 32 s.data.toList
        rw [size_len] at hcn
        obtain ⟨g, cl, rfl, hb1, hb2⟩ := ht hne
        have hl0 : 0 < (sp 32 s.data.toList).length := List.length_pos_iff.2 hne
        have HJ := Aside.mk (join_w (cap := c) ht hl0 hc (by rw [hj, size_len]; have := HS.out; omega) (by have := HS.out; omega))
        rw [hj] at HJ
        have qj := str_s s s.data.toList rfl
        clear h1 h2 hc ht he hwo hcn hj hb1 hb2 hl0 hne
        generalize (sp 32 s.data.toList).length = m at *
        go_wp2_with (first | (go_at_call 37; refine HJ.out.mono ?_; rintro e w9 ⟨rfl, hb⟩; replace HB := Aside.mk (HB.out.trans (hb.mono HB.out.size)); clear hb) | (go_at_call 11; refine (live_ _ (HW.out.below HB.out)).mono ?_; rintro e w9 ⟨rfl, hb⟩; replace HB := Aside.mk (HB.out.trans (hb.mono HB.out.size)); clear hb))
        go_ret
        exact ⟨rfl, HB.out⟩
  · have t1 : decide ((0 : Int) < (l.length : Int)) = true := decide_eq_true (by omega)
    have t2 : decide (0 < l.length) = true := decide_eq_true (by omega)
    have t3 : (0 : Int) < (l.length : Int) := by omega
    have h00 : 0 < l.length := by omega
    obtain ⟨a1, rfl, hx0⟩ := num_at HR.out.rd 0 h00 h00
    have hz : a1.add 0 = a1 := by simp [Addr.add]
    have hx1 : w.cell? (a1.add 0) = some (.int .i64 (l[0]'h00)) := hx0
    rw [hz] at hx1
    have hok := HR.out.ok _ (List.getElem_mem h00)
    generalize l[0]'h00 = n at *
    have HN0 := Aside.mk hx1
    have hx5 := (HB.out.cell (World.block_lt_of_cell? _ _ hx1)).trans hx1
    have HOK := Aside.mk hok
    have q2 : (n != n) = false := by simp
    clear h0 h00 hx0 hx1 hok hz
    go_wp2_with fail
    clear hx5
    refine (show_ n HOK.out.1 HOK.out.2 _ (HW.out.below HB.out)).mono ?_
    rintro e w6 ⟨rfl, hb⟩
    replace HB := Aside.mk (HB.out.trans (hb.mono HB.out.size))
    clear hb
    go_wp2_with fail
    refine (num_w (bs (Lib.itoa n)) (by rw [bs_size]; have := itoa_len n HOK.out.1 HOK.out.2; omega) w6 (HW.out.below HB.out)).mono ?_
    rw [bs_data, numOf_itoa n HOK.out.1 HOK.out.2]
    rintro e w7 ⟨rfl, hb⟩
    replace HB := Aside.mk (HB.out.trans (hb.mono HB.out.size))
    clear hb
    have hx7 := (HB.out.cell (World.block_lt_of_cell? _ _ HN0.out)).trans HN0.out
    go_wp2_with fail
    refine (split_w s (by have := HS.out; omega) _ (HW.out.below HB.out)).mono ?_
    rintro e w8 ⟨hsr, hb⟩
    replace HB := Aside.mk (HB.out.trans (hb.mono HB.out.size))
    clear hb
    rcases hsr with ⟨h1, rfl⟩ | ⟨_, _, rfl⟩ | ⟨h1, h2, A, c, rfl, hc, ht⟩
    · rw [size_len] at h1; exact absurd h1 (by have := HS.out; omega)
    · go_wp2_with (go_at_call 11; refine (live_ _ (HW.out.below HB.out)).mono ?_; rintro e w9 ⟨rfl, hb⟩; replace HB := Aside.mk (HB.out.trans (hb.mono HB.out.size)); clear hb)
      go_ret
      exact ⟨rfl, HB.out⟩
    · by_cases he : s.data.toList = []
      · have hwo : wordsOf s.data.toList = [] := by unfold wordsOf; rw [if_pos he]
        rw [hwo] at hc ht ⊢
        have HJ := Aside.mk (join_none A c w8)
        have qj := str_s s [] he.symm
        clear h1 h2 hc ht he hwo
        go_wp2_with (first | (go_at_call 37; refine HJ.out.mono ?_; rintro e w9 ⟨rfl, hb⟩; replace HB := Aside.mk (HB.out.trans (hb.mono HB.out.size)); clear hb) | (go_at_call 11; refine (live_ _ (HW.out.below HB.out)).mono ?_; rintro e w9 ⟨rfl, hb⟩; replace HB := Aside.mk (HB.out.trans (hb.mono HB.out.size)); clear hb))
        go_ret
        exact ⟨rfl, HB.out⟩
      · have hwo : wordsOf s.data.toList = sp 32 s.data.toList := by unfold wordsOf; rw [if_neg he]
        rw [hwo] at hc ht ⊢
        have hne := sp_ne 32 s.data.toList
        have hcn := sp_count 32 s.data.toList
        have hj := join_sp 32 s.data.toList
        rw [size_len] at hcn
        obtain ⟨g, cl, rfl, hb1, hb2⟩ := ht hne
        have hl0 : 0 < (sp 32 s.data.toList).length := List.length_pos_iff.2 hne
        have HJ := Aside.mk (join_w (cap := c) ht hl0 hc (by rw [hj, size_len]; have := HS.out; omega) (by have := HS.out; omega))
        rw [hj] at HJ
        have qj := str_s s s.data.toList rfl
        clear h1 h2 hc ht he hwo hcn hj hb1 hb2 hl0 hne
        generalize (sp 32 s.data.toList).length = m at *
        go_wp2_with (first | (go_at_call 37; refine HJ.out.mono ?_; rintro e w9 ⟨rfl, hb⟩; replace HB := Aside.mk (HB.out.trans (hb.mono HB.out.size)); clear hb) | (go_at_call 11; refine (live_ _ (HW.out.below HB.out)).mono ?_; rintro e w9 ⟨rfl, hb⟩; replace HB := Aside.mk (HB.out.trans (hb.mono HB.out.size)); clear hb))
        go_ret
        exact ⟨rfl, HB.out⟩
end Go.Proofs.YtabcdcnnamflfaaDoor.Wd
