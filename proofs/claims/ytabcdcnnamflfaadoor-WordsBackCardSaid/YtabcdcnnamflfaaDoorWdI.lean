/- The laws WordsReads and WordsBack: walked. Asked: the library's variables lie as laid. -/
import Derived.Test.YtabcdcnnamflfaaDoorWdH
set_option linter.unusedVariables false
set_option linter.unusedSimpArgs false
set_option maxRecDepth 100000
namespace Go.Proofs.YtabcdcnnamflfaaDoor.Wd
open Go.RowKit Go.Proofs.YtabcdcnnamflfaaDoorW.PrintWords Go.Proofs.YtabcdcnnamflfaaDoorW.PrintLast Go.Proofs.YtabcdcnnamflfaaDoorW.PrintMore
theorem num_range {w : List UInt8} {v : Int} (h : numOf w = some v) : -9223372036854775808 ≤ v ∧ v ≤ 9223372036854775807 := by
  unfold numOf at h
  split at h
  · next u hu =>
    split at h
    · injection h with h; subst h; exact atoi_range hu
    · cases h
  · cases h
theorem big_range {w : List UInt8} {v : Nat} (h : bigOf w = some v) : v < 18446744073709551616 := by
  unfold bigOf at h
  split at h
  · next u hu =>
    split at h
    · injection h with h; subst h; exact Lib.parseMag_lt hu
    · cases h
  · cases h
theorem mapM_ok : ∀ (ws : List (List UInt8)) (l : List Int), ws.mapM numOf = some l → ∀ n ∈ l, -9223372036854775808 ≤ n ∧ n ≤ 9223372036854775807
  | [], l, h, n, hn => by simp at h; subst h; simp at hn
  | w :: ws, l, h, n, hn => by
    rw [List.mapM_cons] at h
    cases h1 : numOf w with
    | none => rw [h1] at h; cases h
    | some v =>
      cases h2 : ws.mapM numOf with
      | none => rw [h1, h2] at h; cases h
      | some r =>
        rw [h1, h2] at h
        injection h with h
        subst h
        rcases List.mem_cons.1 hn with rfl | hn
        · exact num_range h1
        · exact mapM_ok ws r h2 n hn
theorem list_range {s : List UInt8} {l : List Int} (h : listOf s = some l) : ∀ n ∈ l, -9223372036854775808 ≤ n ∧ n ≤ 9223372036854775807 := by
  unfold listOf at h
  split at h
  · injection h with h; subst h; intro n hn; simp at hn
  · exact mapM_ok _ _ h
theorem str_s (s : ByteArray) (a : List UInt8) (h : a = s.data.toList) : ((bs a).toList == s.toList) = true := by
  have := str_eq a s.data.toList
  rw [data_bs, decide_eq_true h] at this
  exact this
set_option maxHeartbeats 8000000 in
theorem walkReads (s : ByteArray) (w : World) (hw : LibW w) :
    Calls Tryd.prog 4 #[.string s] w fun e w' => e = .returned (.bool true) ∧ Below w.heap.size w w' := by
  have HW := Aside.mk hw
  by_cases hbig : 5000 < s.size
  · have t1 : decide ((5000 : Int) < (s.size : Int)) = true := decide_eq_true (by omega)
    have t2 : decide (5000 < s.size) = true := decide_eq_true hbig
    have H := Aside.mk (live_ w hw)
    clear hw hbig
    go_enter Tryd.func4, Tryd.ntmps4
    go_wp2_with (go_at_call 11; refine H.out.mono ?_; rintro e w' ⟨rfl, hb⟩)
    go_ret
    exact ⟨rfl, hb⟩
  have t1 : decide ((5000 : Int) < (s.size : Int)) = false := decide_eq_false (by omega)
  have t2 : decide (5000 < s.size) = false := decide_eq_false hbig
  have HS := Aside.mk (show s.size ≤ 5000 by omega)
  clear hw hbig
  go_enter Tryd.func4, Tryd.ntmps4
  go_wp2_with fail
  clear t1 t2
  refine (num_w s (by have := HS.out; omega) w HW.out).mono ?_
  rintro e w1 ⟨rfl, hb⟩
  have HB1 := Aside.mk hb
  clear hb
  go_wp2_with fail
  refine (big_w s (by have := HS.out; omega) w1 (HW.out.below HB1.out)).mono ?_
  rintro e w2 ⟨rfl, hb⟩
  have HB2 := Aside.mk (HB1.out.trans (hb.mono HB1.out.size))
  clear hb HB1
  go_wp2_with fail
  refine (list_w s (by have := HS.out; omega) w2 (HW.out.below HB2.out)).mono ?_
  rintro e w3 ⟨hlr, hb⟩
  have HB3 := Aside.mk (HB2.out.trans (hb.mono HB2.out.size))
  have HC3 := Aside.mk (Below.refl w3.heap.size w3)
  clear hb HB2
  have hl : (listOf s.data.toList = none ∧ e = .returned (.tuple #[.slice none 0 0, .bool false])) ∨ (∃ l A c, listOf s.data.toList = some l ∧ e = .returned (.tuple #[.slice A l.length c, .bool true]) ∧ Rv w3 A c l ∧ l.length ≤ 100000) := by
    rcases hlr with ⟨h, rfl⟩ | ⟨l, v, h, hl, hO, rfl⟩
    · exact .inl ⟨h, rfl⟩
    · obtain ⟨A, c, rfl, h1, h2⟩ := Kd.R_reads hO
      exact .inr ⟨l, A, c, h, rfl, ⟨h2, h1, list_range h⟩, by rw [size_len] at hl; have := HS.out; omega⟩
  clear hlr
  cases hn : numOf s.data.toList with
  | none =>
    cases hg : bigOf s.data.toList with
    | none =>
      rcases hl with ⟨_, rfl⟩ | ⟨l, A, c, hl, rfl, hR, hL⟩
      · clear hn hg
        go_wp2_with ((go_at_call 11; refine (live_ _ (HW.out.below HB3.out)).mono ?_; rintro e w9 ⟨rfl, hb⟩; replace HC3 := Aside.mk (HC3.out.trans (hb.mono HC3.out.size)); replace HB3 := Aside.mk (HB3.out.trans (hb.mono HB3.out.size)); clear hb))
        go_ret
        exact ⟨rfl, HB3.out⟩
      · have HLI := Aside.mk (fun w' (b : Below w3.heap.size w3 w') => list_ (hR.below b) hL)
        have ql := str_s s (listTxt _) (listOf_some hl)
        clear hn hg hl hR hL
        go_wp2_with (first | (go_at_call 23; refine (HLI.out _ HC3.out).mono ?_; rintro e w9 ⟨rfl, hb⟩; replace HC3 := Aside.mk (HC3.out.trans (hb.mono HC3.out.size)); replace HB3 := Aside.mk (HB3.out.trans (hb.mono HB3.out.size)); clear hb) | (go_at_call 11; refine (live_ _ (HW.out.below HB3.out)).mono ?_; rintro e w9 ⟨rfl, hb⟩; replace HC3 := Aside.mk (HC3.out.trans (hb.mono HC3.out.size)); replace HB3 := Aside.mk (HB3.out.trans (hb.mono HB3.out.size)); clear hb))
        go_ret
        exact ⟨rfl, HB3.out⟩
    | some u =>
      have HBI := Aside.mk (fun w => big_ u (big_range hg) w)
      have qb := str_s s (Lib.decDigits u) (bigOf_some hg)
      rcases hl with ⟨_, rfl⟩ | ⟨l, A, c, hl, rfl, hR, hL⟩
      · clear hn hg
        go_wp2_with (first | (go_at_call 22; refine (HBI.out _).mono ?_; rintro e w9 ⟨rfl, hb⟩; replace HC3 := Aside.mk (HC3.out.trans (hb.mono HC3.out.size)); replace HB3 := Aside.mk (HB3.out.trans (hb.mono HB3.out.size)); clear hb) | (go_at_call 11; refine (live_ _ (HW.out.below HB3.out)).mono ?_; rintro e w9 ⟨rfl, hb⟩; replace HC3 := Aside.mk (HC3.out.trans (hb.mono HC3.out.size)); replace HB3 := Aside.mk (HB3.out.trans (hb.mono HB3.out.size)); clear hb))
        go_ret
        exact ⟨rfl, HB3.out⟩
      · have HLI := Aside.mk (fun w' (b : Below w3.heap.size w3 w') => list_ (hR.below b) hL)
        have ql := str_s s (listTxt _) (listOf_some hl)
        clear hn hg hl hR hL
        go_wp2_with (first | (go_at_call 22; refine (HBI.out _).mono ?_; rintro e w9 ⟨rfl, hb⟩; replace HC3 := Aside.mk (HC3.out.trans (hb.mono HC3.out.size)); replace HB3 := Aside.mk (HB3.out.trans (hb.mono HB3.out.size)); clear hb) | (go_at_call 23; refine (HLI.out _ HC3.out).mono ?_; rintro e w9 ⟨rfl, hb⟩; replace HC3 := Aside.mk (HC3.out.trans (hb.mono HC3.out.size)); replace HB3 := Aside.mk (HB3.out.trans (hb.mono HB3.out.size)); clear hb) | (go_at_call 11; refine (live_ _ (HW.out.below HB3.out)).mono ?_; rintro e w9 ⟨rfl, hb⟩; replace HC3 := Aside.mk (HC3.out.trans (hb.mono HC3.out.size)); replace HB3 := Aside.mk (HB3.out.trans (hb.mono HB3.out.size)); clear hb))
        go_ret
        exact ⟨rfl, HB3.out⟩
  | some v =>
    have hlv := listOf_num hn
    rcases hl with ⟨h, _⟩ | ⟨l, A, c, hl, rfl, hR, hL⟩
    · rw [hlv] at h; cases h
    · rw [hlv] at hl
      injection hl with hl
      subst hl
      have hl := hlv
      have hv := num_range hn
      have HNU := Aside.mk (fun w => num_ v hv.1 hv.2 w)
      have qn := str_s s (Lib.itoa v) (numOf_some hn)
      obtain ⟨a1, rfl, hx0⟩ := num_at hR.rd 0 (by simp) (by simp)
      have hz : a1.add 0 = a1 := by simp [Addr.add]
      rw [hz] at hx0
      have HX := Aside.mk (show w3.cell? a1 = some (.int .i64 v) from hx0)
      clear hx0 hz
      have HLI : Aside (∀ w' (b : Below w3.heap.size w3 w'), Calls Tryd.prog 23 #[.slice (some a1) 1 c] w' fun e w2 => e = .returned (.string (bs (listTxt [v]))) ∧ Below w'.heap.size w' w2) := ⟨fun w' b => list_ (hR.below b) hL⟩
      have ql := str_s s (listTxt _) (listOf_some hl)
      by_cases hneg : v < 0
      · have r1 : decide (v < 0) = true := decide_eq_true hneg
        cases hg : bigOf s.data.toList with
        | none =>
          clear hn hg hl hR hL hlv hv hneg
          go_wp2_with (first | (go_at_call 21; refine (HNU.out _).mono ?_; rintro e w9 ⟨rfl, hb⟩; replace HC3 := Aside.mk (HC3.out.trans (hb.mono HC3.out.size)); replace HB3 := Aside.mk (HB3.out.trans (hb.mono HB3.out.size)); clear hb) | (go_at_call 23; refine (HLI.out _ HC3.out).mono ?_; rintro e w9 ⟨rfl, hb⟩; replace HC3 := Aside.mk (HC3.out.trans (hb.mono HC3.out.size)); replace HB3 := Aside.mk (HB3.out.trans (hb.mono HB3.out.size)); clear hb; have hx := (HC3.out.cell (World.block_lt_of_cell? _ _ HX.out)).trans HX.out) | (go_at_call 11; refine (live_ _ (HW.out.below HB3.out)).mono ?_; rintro e w9 ⟨rfl, hb⟩; replace HC3 := Aside.mk (HC3.out.trans (hb.mono HC3.out.size)); replace HB3 := Aside.mk (HB3.out.trans (hb.mono HB3.out.size)); clear hb))
          go_ret
          exact ⟨rfl, HB3.out⟩
        | some u =>
          have HBI := Aside.mk (fun w => big_ u (big_range hg) w)
          have qb := str_s s (Lib.decDigits u) (bigOf_some hg)
          clear hn hg hl hR hL hlv hv hneg
          go_wp2_with (first | (go_at_call 21; refine (HNU.out _).mono ?_; rintro e w9 ⟨rfl, hb⟩; replace HC3 := Aside.mk (HC3.out.trans (hb.mono HC3.out.size)); replace HB3 := Aside.mk (HB3.out.trans (hb.mono HB3.out.size)); clear hb) | (go_at_call 22; refine (HBI.out _).mono ?_; rintro e w9 ⟨rfl, hb⟩; replace HC3 := Aside.mk (HC3.out.trans (hb.mono HC3.out.size)); replace HB3 := Aside.mk (HB3.out.trans (hb.mono HB3.out.size)); clear hb) | (go_at_call 23; refine (HLI.out _ HC3.out).mono ?_; rintro e w9 ⟨rfl, hb⟩; replace HC3 := Aside.mk (HC3.out.trans (hb.mono HC3.out.size)); replace HB3 := Aside.mk (HB3.out.trans (hb.mono HB3.out.size)); clear hb; have hx := (HC3.out.cell (World.block_lt_of_cell? _ _ HX.out)).trans HX.out) | (go_at_call 11; refine (live_ _ (HW.out.below HB3.out)).mono ?_; rintro e w9 ⟨rfl, hb⟩; replace HC3 := Aside.mk (HC3.out.trans (hb.mono HC3.out.size)); replace HB3 := Aside.mk (HB3.out.trans (hb.mono HB3.out.size)); clear hb))
          go_ret
          exact ⟨rfl, HB3.out⟩
      · have r1 : decide (v < 0) = false := decide_eq_false hneg
        have hg := bigOf_num hn (by omega) hv.2
        obtain ⟨u, rfl⟩ : ∃ u : Nat, v = (u : Int) := ⟨v.toNat, by omega⟩
        rw [Int.toNat_natCast] at hg
        rw [hg]
        have HBI := Aside.mk (fun w => big_ u (big_range hg) w)
        have qb := str_s s (Lib.decDigits u) (bigOf_some hg)
        have r2 : IntKind.u64.wrap (u : Int) = (u : Int) := by rw [IntKind.wrap_u64]; omega
        clear hn hg hl hR hL hlv hv hneg
        go_wp2_with (first | (go_at_call 21; refine (HNU.out _).mono ?_; rintro e w9 ⟨rfl, hb⟩; replace HC3 := Aside.mk (HC3.out.trans (hb.mono HC3.out.size)); replace HB3 := Aside.mk (HB3.out.trans (hb.mono HB3.out.size)); clear hb) | (go_at_call 22; refine (HBI.out _).mono ?_; rintro e w9 ⟨rfl, hb⟩; replace HC3 := Aside.mk (HC3.out.trans (hb.mono HC3.out.size)); replace HB3 := Aside.mk (HB3.out.trans (hb.mono HB3.out.size)); clear hb) | (go_at_call 23; refine (HLI.out _ HC3.out).mono ?_; rintro e w9 ⟨rfl, hb⟩; replace HC3 := Aside.mk (HC3.out.trans (hb.mono HC3.out.size)); replace HB3 := Aside.mk (HB3.out.trans (hb.mono HB3.out.size)); clear hb; have hx := (HC3.out.cell (World.block_lt_of_cell? _ _ HX.out)).trans HX.out) | (go_at_call 11; refine (live_ _ (HW.out.below HB3.out)).mono ?_; rintro e w9 ⟨rfl, hb⟩; replace HC3 := Aside.mk (HC3.out.trans (hb.mono HC3.out.size)); replace HB3 := Aside.mk (HB3.out.trans (hb.mono HB3.out.size)); clear hb))
        go_ret
        exact ⟨rfl, HB3.out⟩
end Go.Proofs.YtabcdcnnamflfaaDoor.Wd
