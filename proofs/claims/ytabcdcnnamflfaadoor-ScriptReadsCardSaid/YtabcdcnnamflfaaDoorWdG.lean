/- The laws of the words: walked. Asked: the library's variables lie as laid. -/
import Derived.Test.YtabcdcnnamflfaaDoorWdF
set_option linter.unusedVariables false
set_option linter.unusedSimpArgs false
set_option maxRecDepth 100000
namespace Go.Proofs.YtabcdcnnamflfaaDoor.Wd
open Go.RowKit Go.Proofs.YtabcdcnnamflfaaDoorW.PrintWords Go.Proofs.YtabcdcnnamflfaaDoorW.PrintLast Go.Proofs.YtabcdcnnamflfaaDoorW.PrintMore
/-! ### the example -/
theorem lit_int {w : World} {b : Nat} (xs : List Int) (h : w.heap[b]? = some (.cells (xs.map (Value.int .i64)).toArray 3 (0, 0))) (hl : xs.length ≤ 100) : Kd.C (Kd.int .i64) w (some ⟨b, 0, none⟩) xs.length xs :=
  ⟨rfl, by omega, fun _ => ⟨_, rfl, fun j p hp => ⟨[.int .i64 p], rfl, rfl, fun i u hu => by
    obtain ⟨rfl, rfl⟩ : i = 0 ∧ .int .i64 p = u := by cases i with
      | zero => simpa using hu
      | succ i => simp at hu
    have h2 := blk_cell h j
    have h3 : (xs.map (Value.int .i64)).toArray[j]? = some (.int .i64 p) := by simp [hp]
    rw [h3] at h2
    rw [add_plain]
    simpa [Kd.int, Kd.scalar] using h2⟩⟩⟩
theorem ex_list : listOf [49, 44, 45, 50] = some [1, -2] := by
  have h := listOf_txt [1, -2] (by decide)
  have e : listTxt [1, -2] = [49, 44, 45, 50] := by
    unfold listTxt
    rw [if_neg (by decide)]
    simp only [List.map_cons, List.map_nil, Lib.itoa]
    rw [if_neg (by decide), if_pos (by decide), Lib.decDigits_one (by decide), Lib.decDigits_one (by decide)]
    decide
  rwa [e] at h
theorem ex_num : numOf [48, 48, 55] = none := by
  have h : Lib.atoiAll [48, 48, 55] = .ok 7 := by decide
  unfold numOf
  rw [h]
  simp only
  rw [if_neg]
  unfold Lib.itoa
  rw [if_neg (by decide), Lib.decDigits_one (by decide)]
  decide
set_option maxHeartbeats 4000000 in
theorem live_ (w : World) (hw : LibW w) : Calls Tryd.prog 11 #[] w fun e w' => e = .returned (.bool true) ∧ Below w.heap.size w w' := by
  have HW := Aside.mk hw
  have H1 := Aside.mk (split_w ⟨#[97, 32, 32, 98]⟩ (by decide) w hw)
  clear hw
  go_enter Tryd.func11, Tryd.ntmps11
  go_wp2_with fail
  refine H1.out.mono ?_
  rintro e w1 ⟨hsr, hb⟩
  have HB1 := Aside.mk hb
  clear hb H1
  rcases hsr with ⟨h1, _⟩ | ⟨_, _, rfl⟩ | ⟨_, h1, _⟩
  · exact absurd h1 (by decide)
  · go_wp2_with fail
    refine (list_w ⟨#[49, 44, 45, 50]⟩ (by decide) w1 (HW.out.below HB1.out)).mono ?_
    rintro e w2 ⟨hlr, hb⟩
    have HB2 := Aside.mk (HB1.out.trans (hb.mono HB1.out.size))
    clear hb
    rcases hlr with ⟨h, _⟩ | ⟨l, v, h, _, hO, rfl⟩
    · rw [show (⟨#[49, 44, 45, 50]⟩ : ByteArray).data.toList = [49, 44, 45, 50] from rfl, ex_list] at h; cases h
    rw [show (⟨#[49, 44, 45, 50]⟩ : ByteArray).data.toList = [49, 44, 45, 50] from rfl, ex_list] at h
    injection h with h
    subst h
    obtain ⟨A2, c2, rfl, h21, h22⟩ := Kd.R_reads hO
    have HR2 := Aside.mk h22
    clear hO h21 h22
    go_wp2_with fail
    refine (num_w ⟨#[48, 48, 55]⟩ (by decide) w2 (HW.out.below HB2.out)).mono ?_
    rw [show (⟨#[48, 48, 55]⟩ : ByteArray).data.toList = [48, 48, 55] from rfl, ex_num]
    rintro e w3 ⟨rfl, hb⟩
    have HB3 := Aside.mk (HB2.out.trans (hb.mono HB2.out.size))
    have HR3 := Aside.mk (Kd.C_below HR2.out hb)
    clear hb HR2 HB2 HB1
    go_wp2_with fail
    have HL := Aside.mk (lit_int (w := w3.alloc (.cells #[.int .i64 1, .int .i64 (-2)] 3)) (b := w3.heap.size) [1, -2] (by simpa using heap_alloc_new w3 (.cells #[.int .i64 1, .int .i64 (-2)] 3)) (by decide))
    have HR4 := Aside.mk (Kd.C_alloc HR3.out (.cells #[.int .i64 1, .int .i64 (-2)] 3))
    have HB4 := Aside.mk (below_alloc HB3.out (.cells #[.int .i64 1, .int .i64 (-2)] 3))
    refine (same_int HR4.out HL.out (by decide)).mono ?_
    rintro e w5 ⟨rfl, hb⟩
    have HB5 := Aside.mk (HB4.out.trans (hb.mono HB4.out.size))
    clear hb
    go_wp2
    go_ret
    exact ⟨rfl, HB5.out⟩
  · exact absurd h1 (by decide)
/-! ### numbers' words -/
theorem str_same (a : List UInt8) : ((bs a).toList == (bs a).toList) = true := by rw [str_eq, decide_eq_true rfl]
set_option maxHeartbeats 4000000 in
theorem walkNumbers (n : Int) (hn0 : -9223372036854775808 ≤ n) (hn1 : n ≤ 9223372036854775807) (x : Nat) (hx : x < 18446744073709551616) (A : Option Addr) (c : Nat) (l : List Int) (w : World) (hr : Rv w A c l) (hw : LibW w) :
    Calls Tryd.prog 5 #[.int .i64 n, .int .u64 x, .slice A l.length c] w fun e w' => e = .returned (.bool true) ∧ Below w.heap.size w w' := by
  have HW := Aside.mk hw
  have HR := Aside.mk hr
  by_cases hl : 300 < l.length
  · have t1 : decide ((300 : Int) < (l.length : Int)) = true := decide_eq_true (by omega)
    have t2 : decide (300 < l.length) = true := decide_eq_true hl
    have H := Aside.mk (live_ w hw)
    clear hw hl hr
    go_enter Tryd.func5, Tryd.ntmps5
    go_wp2_with (go_at_call 11; refine H.out.mono ?_; rintro e w' ⟨rfl, hb⟩)
    go_ret
    exact ⟨rfl, hb⟩
  · have t1 : decide ((300 : Int) < (l.length : Int)) = false := decide_eq_false (by omega)
    have t2 : decide (300 < l.length) = false := decide_eq_false hl
    have HL := Aside.mk (show l.length ≤ 100000 by omega)
    have H1 := Aside.mk (show_ n hn0 hn1 w hw)
    have H2 := Aside.mk (fun w => num_ n hn0 hn1 w)
    have H3 := Aside.mk (fun w' (b : Below w.heap.size w w') => showBig_ x hx w' (HW.out.below b))
    have H4 := Aside.mk (fun w => big_ x hx w)
    have H5 := Aside.mk (fun w' (b : Below w.heap.size w w') => showList_ (HR.out.below b) HL.out (HW.out.below b))
    have H6 := Aside.mk (fun w' (b : Below w.heap.size w w') => list_ (HR.out.below b) HL.out)
    have q1 := str_same (Lib.itoa n)
    have q2 := str_same (Lib.decDigits x)
    have q3 := str_same (listTxt l)
    clear hw hl hr hn0 hn1 hx
    go_enter Tryd.func5, Tryd.ntmps5
    go_wp2_with (first
      | (go_at_call 24; refine H1.out.mono ?_; rintro e w1 ⟨rfl, hb⟩; have HB := Aside.mk hb; clear hb)
      | (go_at_call 21; refine (H2.out _).mono ?_; rintro e w1 ⟨rfl, hb⟩; replace HB := Aside.mk (HB.out.trans (hb.mono HB.out.size)); clear hb)
      | (go_at_call 25; refine (H3.out _ HB.out).mono ?_; rintro e w1 ⟨rfl, hb⟩; replace HB := Aside.mk (HB.out.trans (hb.mono HB.out.size)); clear hb)
      | (go_at_call 22; refine (H4.out _).mono ?_; rintro e w1 ⟨rfl, hb⟩; replace HB := Aside.mk (HB.out.trans (hb.mono HB.out.size)); clear hb)
      | (go_at_call 26; refine (H5.out _ HB.out).mono ?_; rintro e w1 ⟨rfl, hb⟩; replace HB := Aside.mk (HB.out.trans (hb.mono HB.out.size)); clear hb)
      | (go_at_call 23; refine (H6.out _ HB.out).mono ?_; rintro e w1 ⟨rfl, hb⟩; replace HB := Aside.mk (HB.out.trans (hb.mono HB.out.size)); clear hb)
      | (go_at_call 11; refine (live_ _ (HW.out.below HB.out)).mono ?_; rintro e w1 ⟨rfl, hb⟩; replace HB := Aside.mk (HB.out.trans (hb.mono HB.out.size)); clear hb))
    go_ret
    exact ⟨rfl, HB.out⟩
end Go.Proofs.YtabcdcnnamflfaaDoor.Wd
