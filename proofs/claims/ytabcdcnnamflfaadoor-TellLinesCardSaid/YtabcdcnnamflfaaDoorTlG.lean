/- The laws TellLines and TellBack: walked. Asked: the library's variables lie as laid. -/
import Derived.Test.YtabcdcnnamflfaaDoorTlF
set_option linter.unusedVariables false
set_option linter.unusedSimpArgs false
set_option maxRecDepth 100000
namespace Go.Proofs.YtabcdcnnamflfaaDoor.Wd
open Go.RowKit Go.Proofs.YtabcdcnnamflfaaDoorW.PrintWords Go.Proofs.YtabcdcnnamflfaaDoorW.PrintLast Go.Proofs.YtabcdcnnamflfaaDoorW.PrintMore
open QTe (EvOk In64 S76 k76 at_T76 rd_T76 k76_mk)
theorem few_of {xs : List S76} (h : QTe.Small xs) : Few xs 100 := ⟨h.1, h.2⟩
theorem refline_ (x : S76) (A : Option Addr) (c : Nat) (w : World) (h : Rv w A c x.f6) (ho : EvOk (evOf x)) (hl : x.f6.length ≤ 100) : Calls Tryd.prog 42 #[.agg #[.int .i64 x.f0, .int .i64 x.f1, .int .i64 x.f2, .int .i64 x.f3, .int .u64 x.f4, .int .i64 x.f5, .slice A x.f6.length c]] w fun r w' => r = .returned (.string (bs (lineE (evOf x)))) ∧ Below w.heap.size w w' :=
  QTe.sakiaref37_Line.calls 20 _ _ _ _ _ _ A c x.f6 _ w h.rd h.cap (QTe.line_f (evOf x) ho (show x.f6.length ≤ 100000 by omega))
theorem line_x (x : S76) (A : Option Addr) (c : Nat) (w : World) (h : Rv w A c x.f6) (ho : EvOk (evOf x)) (hl : x.f6.length ≤ 100) (hw : LibW w) : Calls Tryd.prog 43 #[.agg #[.int .i64 x.f0, .int .i64 x.f1, .int .i64 x.f2, .int .i64 x.f3, .int .u64 x.f4, .int .i64 x.f5, .slice A x.f6.length c]] w fun r w' => r = .returned (.string (bs (lineE (evOf x)))) ∧ Below w.heap.size w w' :=
  line_e (evOf x) A c w h ho (show x.f6.length ≤ 100000 by omega) hw
theorem clean_x (x : S76) (A : Option Addr) (c : Nat) (w : World) (h : Rv w A c x.f6) : Calls Tryd.prog 44 #[.agg #[.int .i64 x.f0, .int .i64 x.f1, .int .i64 x.f2, .int .i64 x.f3, .int .u64 x.f4, .int .i64 x.f5, .slice A x.f6.length c]] w fun r w' => r = .returned (.bool (cleanB (evOf x))) ∧ Below w.heap.size w w' :=
  tclean_ (evOf x) A c w h
theorem drawn_below {w w' : World} (h : Drawn0 w w') : Below w.heap.size w w' := by
  obtain ⟨n, rfl⟩ := h
  exact pw_below_drewN (Below.refl _ _) n
set_option maxHeartbeats 8000000 in
theorem walkTellBack (w : World) (A : Option Addr) (c : Nat) (xs : List S76) (h : Evs w A c xs) (hw : LibW w) :
    Calls Tryd.prog 10 #[.slice A xs.length c] w fun e w' => e = .returned (.bool true) ∧ Below w.heap.size w w' := by
  have HX := Aside.mk h
  have HW := Aside.mk hw
  obtain ⟨b, hb, hsm⟩ := QTe.long_ok xs 1000 (Nat.le_refl _)
  have HLO := Aside.mk (QTe.sakialaw15_Long.calls 1000 A c xs 100 b w h.rd h.cap hb)
  have HSM := Aside.mk hsm
  clear h hw hb hsm
  cases b with
  | true =>
    go_enter Tryd.func10, Tryd.ntmps10
    go_wp2_with fail
    refine HLO.out.mono ?_
    rintro r w1 ⟨rfl, hd⟩
    have HB := Aside.mk (drawn_below hd)
    clear hd
    go_wp2_with (go_at_call 41; refine (tlive_ _ (HW.out.below HB.out)).mono ?_; rintro e w9 ⟨rfl, hb⟩; replace HB := Aside.mk (HB.out.trans (hb.mono HB.out.size)); clear hb)
    go_ret
    exact ⟨rfl, HB.out⟩
  | false =>
    have HF := Aside.mk (few_of (HSM.out rfl))
    go_enter Tryd.func10, Tryd.ntmps10
    go_wp2_with fail
    refine HLO.out.mono ?_
    rintro r w1 ⟨rfl, hd⟩
    have HB := Aside.mk (drawn_below hd)
    clear hd
    go_wp2_with (go_at_call 45; refine (text_ _ A c xs (HX.out.below HB.out) HF.out (HW.out.below HB.out)).mono ?_)
    rintro r w2 ⟨rfl, hb⟩
    replace HB := Aside.mk (HB.out.trans (hb.mono HB.out.size)); clear hb
    cases hc : clean xs with
    | false =>
      clear hc
      go_wp2_with (go_at_call 41; refine (tlive_ _ (HW.out.below HB.out)).mono ?_; rintro e w9 ⟨rfl, hb⟩; replace HB := Aside.mk (HB.out.trans (hb.mono HB.out.size)); clear hb)
      go_ret
      exact ⟨rfl, HB.out⟩
    | true =>
      have ht : txtE xs = textOf (lines xs) := by unfold txtE; rw [if_pos hc]
      rw [ht]
      have HC := Aside.mk hc
      clear hc ht
      by_cases hbig : 65536 < (textOf (lines xs)).length
      · have t1 : decide ((65536 : Int) < ((bs (textOf (lines xs))).size : Int)) = true := decide_eq_true (by rw [bs_size]; omega)
        have t2 : decide (65536 < (bs (textOf (lines xs))).size) = true := decide_eq_true (by rw [bs_size]; exact hbig)
        clear hbig
        go_wp2_with (go_at_call 41; refine (tlive_ _ (HW.out.below HB.out)).mono ?_; rintro e w9 ⟨rfl, hb⟩; replace HB := Aside.mk (HB.out.trans (hb.mono HB.out.size)); clear hb)
        go_ret
        exact ⟨rfl, HB.out⟩
      · have t1 : decide ((65536 : Int) < ((bs (textOf (lines xs))).size : Int)) = false := decide_eq_false (by rw [bs_size]; omega)
        have t2 : decide (65536 < (bs (textOf (lines xs))).size) = false := decide_eq_false (by rw [bs_size]; exact hbig)
        have HLE := Aside.mk (show (textOf (lines xs)).length ≤ 65536 by omega)
        clear hbig
        go_wp2_with (go_at_call 46; refine (events_ _ xs HX.out.ok HF.out HC.out HLE.out (HW.out.below HB.out)).mono ?_)
        rintro r w3 ⟨v, rfl, hO, hb⟩
        obtain ⟨A2, c2, rfl, hc2, hr2⟩ := hO.reads (fun x hx => by have := HF.out.d x hx; omega)
        replace HB := Aside.mk (HB.out.trans (hb.mono HB.out.size)); clear hb
        have HS := Aside.mk (QTe.sakiaref15_Same.calls 1000 A c xs A2 c2 xs true w3 (HX.out.below HB.out).rd HX.out.cap hr2 hc2 (by rw [QTe.rsame_ok xs xs ⟨HF.out.n, HF.out.d⟩ 1000 (Nat.le_refl _), QTe.sameL_refl]))
        clear hO hc2 hr2
        go_wp2_with (first | (go_at_call 47; refine HS.out.mono ?_; rintro e w4 ⟨rfl, hb⟩; replace HB := Aside.mk (HB.out.trans (hb.mono HB.out.size)); clear hb) | (go_at_call 41; refine (tlive_ _ (HW.out.below HB.out)).mono ?_; rintro e w9 ⟨rfl, hb⟩; replace HB := Aside.mk (HB.out.trans (hb.mono HB.out.size)); clear hb))
        go_ret
        exact ⟨rfl, HB.out⟩
theorem snoc_all {xs : List S76} (i : Nat) (h : i < xs.length) : clean (xs.take (i + 1)) = (clean (xs.take i) && cleanB (evOf xs[i])) ∧ lines (xs.take (i + 1)) = lines (xs.take i) ++ [lineE (evOf xs[i])] := by
  rw [List.take_succ_eq_append_getElem h]
  unfold clean lines
  rw [List.all_append, List.map_append]
  simp
theorem bs10 : (⟨#[10]⟩ : ByteArray) = bs [10] := rfl
theorem str_ne (a : List UInt8) : ((bs a).toList != (bs a).toList) = false := by rw [bne, str_same]; rfl
set_option maxHeartbeats 8000000 in
theorem walkTellLines (w : World) (A : Option Addr) (c : Nat) (xs : List S76) (h : Evs w A c xs) (hw : LibW w) :
    Calls Tryd.prog 9 #[.slice A xs.length c] w fun e w' => e = .returned (.bool true) ∧ Below w.heap.size w w' := by
  have HX := Aside.mk h
  have HW := Aside.mk hw
  obtain ⟨b, hb, hsm⟩ := QTe.long_ok xs 1000 (Nat.le_refl _)
  have HLO := Aside.mk (QTe.sakialaw15_Long.calls 1000 A c xs 100 b w h.rd h.cap hb)
  have HSM := Aside.mk hsm
  have HU := Tryd.underlying76
  clear h hw hb hsm
  cases b with
  | true =>
    go_enter Tryd.func9, Tryd.ntmps9
    go_wp2_with fail
    refine HLO.out.mono ?_
    rintro r w1 ⟨rfl, hd⟩
    have HB := Aside.mk (drawn_below hd)
    clear hd
    go_wp2_with (go_at_call 41; refine (tlive_ _ (HW.out.below HB.out)).mono ?_; rintro e w9 ⟨rfl, hb⟩; replace HB := Aside.mk (HB.out.trans (hb.mono HB.out.size)); clear hb)
    go_ret
    exact ⟨rfl, HB.out⟩
  | false =>
    have HF := Aside.mk (few_of (HSM.out rfl))
    go_enter Tryd.func9, Tryd.ntmps9
    go_wp2_with fail
    refine HLO.out.mono ?_
    rintro r w1 ⟨rfl, hd⟩
    have HB0 := Aside.mk (drawn_below hd)
    clear hd
    go_wp2_with fail
    go_loopw [3, 4, 5] (fun s g x wr => ∃ i : Nat, i ≤ xs.length ∧ x = .int .i64 i ∧ s = .string (bs (textOf (lines (xs.take i)))) ∧ g = .bool (clean (xs.take i)) ∧ Aside (Below w.heap.size w wr)) (fun _ _ x _ => xs.length - (intOf x).toNat)
    case atStart => exact ⟨0, Nat.zero_le _, rfl, rfl, rfl, HB0⟩
    case round =>
      clear HB0
      obtain ⟨i, hi, rfl, rfl, rfl, HB⟩ := hrel
      by_cases hlt : i < xs.length
      · have t1 : decide ((i : Int) < (xs.length : Int)) = true := decide_eq_true (by omega)
        have t2 : decide (i < xs.length) = true := decide_eq_true hlt
        have t3 : (i : Int) < (xs.length : Int) := by omega
        have HLT := Aside.mk hlt
        have ei := i1 (show i < 4611686018427387904 by have := HF.out.n; omega)
        obtain ⟨ad, A6, c6, rfl, d0, d1, d2, d3, d4, d5, d6, hv⟩ := (HX.out.below HB.out).at i hlt
        have HV := Aside.mk hv
        have HOK := Aside.mk (HX.out.ok _ (List.getElem_mem hlt))
        have HDL := Aside.mk (HF.out.d _ (List.getElem_mem hlt))
        have HSN := Aside.mk (snoc_all i hlt)
        have HLN := Aside.mk (lineE_len HOK.out HDL.out)
        have HTL := Aside.mk (textOf_len HX.out.ok HF.out i)
        have HIX := Aside.mk (show i ≤ 100 by have := HF.out.n; omega)
        generalize xs[i] = x at *
        obtain ⟨tx, htx⟩ : ∃ tx, textOf (lines (xs.take i)) = tx := ⟨_, rfl⟩
        have HTX := Aside.mk htx
        rw [htx] at HTL ⊢
        obtain ⟨cl, hcl⟩ : ∃ cl, clean (xs.take i) = cl := ⟨_, rfl⟩
        rw [hcl] at HSN ⊢
        clear hv hi hlt htx hcl
        have hcat : ¬ 9223372036854775807 < (bs tx).size + (bs (lineE (evOf x))).size := by
          rw [bs_size, bs_size]; have := HLN.out; have := HTL.out; have := HIX.out; omega
        have hcat2 : ¬ 9223372036854775807 < (bs tx).size + (bs (lineE (evOf x))).size + (⟨#[10]⟩ : ByteArray).size := by
          rw [bs_size, bs_size]; have := HLN.out; have := HTL.out; have := HIX.out; show ¬ _ < _ + _ + 1; omega
        have q1 := str_ne (lineE (evOf x))
        go_wp2_with fail
        refine (refline_ x A6 c6 wr HV.out HOK.out HDL.out).mono ?_
        rintro r w2 ⟨rfl, hb⟩
        have HB2 := Aside.mk (HB.out.trans (hb.mono HB.out.size))
        have HV2 := Aside.mk (HV.out.below hb)
        replace d0 := (hb.cell (World.block_lt_of_cell? _ _ d0)).trans d0
        replace d1 := (hb.cell (World.block_lt_of_cell? _ _ d1)).trans d1
        replace d2 := (hb.cell (World.block_lt_of_cell? _ _ d2)).trans d2
        replace d3 := (hb.cell (World.block_lt_of_cell? _ _ d3)).trans d3
        replace d4 := (hb.cell (World.block_lt_of_cell? _ _ d4)).trans d4
        replace d5 := (hb.cell (World.block_lt_of_cell? _ _ d5)).trans d5
        replace d6 := (hb.cell (World.block_lt_of_cell? _ _ d6)).trans d6
        clear hb HV HB
        go_wp2_with (go_at_call 43; refine (line_x x A6 c6 w2 HV2.out HOK.out HDL.out (HW.out.below HB2.out)).mono ?_)
        rintro r w3 ⟨rfl, hb⟩
        have HB3 := Aside.mk (HB2.out.trans (hb.mono HB2.out.size))
        have HV3 := Aside.mk (HV2.out.below hb)
        replace d0 := (hb.cell (World.block_lt_of_cell? _ _ d0)).trans d0
        replace d1 := (hb.cell (World.block_lt_of_cell? _ _ d1)).trans d1
        replace d2 := (hb.cell (World.block_lt_of_cell? _ _ d2)).trans d2
        replace d3 := (hb.cell (World.block_lt_of_cell? _ _ d3)).trans d3
        replace d4 := (hb.cell (World.block_lt_of_cell? _ _ d4)).trans d4
        replace d5 := (hb.cell (World.block_lt_of_cell? _ _ d5)).trans d5
        replace d6 := (hb.cell (World.block_lt_of_cell? _ _ d6)).trans d6
        clear hb HV2 HB2
        go_wp2_with (go_at_call 44; refine (clean_x x A6 c6 w3 HV3.out).mono ?_)
        rintro r w4 ⟨rfl, hb⟩
        have HB4 := Aside.mk (HB3.out.trans (hb.mono HB3.out.size))
        clear hb HV3 HB3 d0 d1 d2 d3 d4 d5 d6
        cases hc : cleanB (evOf x) with
        | false =>
          have q2 : (bs (lineE (evOf x))).toList.isEmpty = true := by rw [bs_toList, lineE_none hc]; rfl
          have HS2 := Aside.mk (show clean (xs.take (i + 1)) = false from by rw [HSN.out.1, hc]; simp)
          clear hc
          cases cl
          all_goals
            go_wp2
            go_roundw
            case rel => exact ⟨i + 1, HLT.out, by first | rfl | simp, by rw [HSN.out.2, textOf_snoc, HTX.out, bs10, bs_append, bs_append, List.append_assoc], by rw [HS2.out], HB4⟩
            case measure =>
              have := HLT.out
              have e9 : ((i : Int) + 1).toNat = i + 1 := by omega
              simp only [intOf, e9, Int.toNat_natCast]
              omega
        | true =>
          have q2 : (bs (lineE (evOf x))).toList.isEmpty = false := by
            rw [bs_toList]
            cases hL : lineE (evOf x) with
            | nil => exact absurd hL (lineE_clean hc).2.2.2.1
            | cons a l => rfl
          have HS2 := Aside.mk (show clean (xs.take (i + 1)) = cl from by rw [HSN.out.1, hc]; simp)
          clear hc
          cases cl
          all_goals
            go_wp2
            go_roundw
            case rel => exact ⟨i + 1, HLT.out, by first | rfl | simp, by rw [HSN.out.2, textOf_snoc, HTX.out, bs10, bs_append, bs_append, List.append_assoc], by rw [HS2.out], HB4⟩
            case measure =>
              have := HLT.out
              have e9 : ((i : Int) + 1).toNat = i + 1 := by omega
              simp only [intOf, e9, Int.toNat_natCast]
              omega
      · have t1 : decide ((i : Int) < (xs.length : Int)) = false := decide_eq_false (by omega)
        have t2 : decide (i < xs.length) = false := decide_eq_false hlt
        rw [List.take_of_length_le (by omega)]
        clear hi hlt
        have q1 := str_same (txtE xs)
        cases hc : clean xs with
        | false =>
          have ht : txtE xs = [] := by unfold txtE; rw [if_neg (by rw [hc]; decide)]
          have HT := Aside.mk (fun w' (b : Below w.heap.size w w') => text_ w' A c xs (HX.out.below b) HF.out (HW.out.below b))
          rw [ht, hc] at HT
          have q2 : (bs []).toList.isEmpty = true := by rw [bs_toList]; rfl
          have q3 : ((bs []).toList == []) = true := by rw [bs_toList]; rfl
          clear hc ht
          go_wp2_with (first | (go_at_call 45; refine (HT.out _ HB.out).mono ?_; rintro r w2 ⟨rfl, hb⟩; replace HB := Aside.mk (HB.out.trans (hb.mono HB.out.size)); clear hb) | (go_at_call 41; refine (tlive_ _ (HW.out.below HB.out)).mono ?_; rintro e w9 ⟨rfl, hb⟩; replace HB := Aside.mk (HB.out.trans (hb.mono HB.out.size)); clear hb))
          go_ret
          exact ⟨rfl, HB.out⟩
        | true =>
          have ht : txtE xs = textOf (lines xs) := by unfold txtE; rw [if_pos hc]
          have HT := Aside.mk (fun w' (b : Below w.heap.size w w') => text_ w' A c xs (HX.out.below b) HF.out (HW.out.below b))
          rw [ht] at q1 HT
          rw [hc] at HT
          clear hc ht
          go_wp2_with (first | (go_at_call 45; refine (HT.out _ HB.out).mono ?_; rintro r w2 ⟨rfl, hb⟩; replace HB := Aside.mk (HB.out.trans (hb.mono HB.out.size)); clear hb) | (go_at_call 41; refine (tlive_ _ (HW.out.below HB.out)).mono ?_; rintro e w9 ⟨rfl, hb⟩; replace HB := Aside.mk (HB.out.trans (hb.mono HB.out.size)); clear hb))
          go_ret
          exact ⟨rfl, HB.out⟩
end Go.Proofs.YtabcdcnnamflfaaDoor.Wd
