/- The program's words: numbers shown and read, by the library's contracts. Asked: the library's variables lie as laid. -/
import Derived.Test.YtabcdcnnamflfaaDoorWdB
import Derived.Test.YtabcdcnnamflfaaDoorShelf
import Derived.Lib.AppendIntMem
import Derived.Lib.AtoiErrMem
import Derived.Lib.ParseIntBCases
set_option linter.unusedVariables false
set_option linter.unusedSimpArgs false
set_option maxRecDepth 100000
namespace Go.Proofs.YtabcdcnnamflfaaDoor.Wd
open Go.RowKit Go.Proofs.YtabcdcnnamflfaaDoorW.PrintWords Go.Proofs.YtabcdcnnamflfaaDoorW.PrintLast Go.Proofs.YtabcdcnnamflfaaDoorW.PrintMore
/-- What is asked of the library's variables. -/
structure LibW (w : World) : Prop where
  tab : Lib.TabIs Tryd.prog w "internal/strconv.uint64pow10" .u64 Lib.pow10Tab
  es : ∃ te pe, w.cell? ⟨1, 0, none⟩ = some (.iface te pe)
  er : ∃ te pe, w.cell? ⟨2, 0, none⟩ = some (.iface te pe)
  ml : ∃ m, w.cell? ⟨0, 0, none⟩ = some (.int .i64 m)
theorem tabIs_below {w w' : World} {name : String} {k : IntKind} {zs : List Int} (h : Lib.TabIs Tryd.prog w name k zs) (b : Below w.heap.size w w') : Lib.TabIs Tryd.prog w' name k zs := by
  unfold Lib.TabIs World.var? at *
  cases hg : Tryd.prog.globalNamed name with
  | none => simp [hg] at h
  | some g =>
    simp only [hg, Option.bind_some] at h ⊢
    have hlt : g < w.heap.size := by
      rcases Nat.lt_or_ge g w.heap.size with h' | h'
      · exact h'
      · rw [Array.getElem?_eq_none h'] at h; simp at h
    rw [b.block g hlt]; exact h
theorem LibW.below {w w' : World} (h : LibW w) (b : Below w.heap.size w w') : LibW w' := by
  obtain ⟨h1, ⟨t2, p2, h2⟩, ⟨t3, p3, h3⟩, ⟨m, h4⟩⟩ := h
  exact ⟨tabIs_below h1 b, ⟨t2, p2, (b.cell (World.block_lt_of_cell? _ _ h2)).trans h2⟩, ⟨t3, p3, (b.cell (World.block_lt_of_cell? _ _ h3)).trans h3⟩, ⟨m, (b.cell (World.block_lt_of_cell? _ _ h4)).trans h4⟩⟩
theorem itoa_ (n : Int) (h0 : -9223372036854775808 ≤ n) (h1 : n ≤ 9223372036854775807) (w : World) (hw : LibW w) :
    Calls Tryd.prog 52 #[.int .i64 n] w fun e w' => e = .returned (.string (bs (Lib.itoa n))) ∧ Below w.heap.size w w' :=
  (Tryd.strconv_Itoa n h0 h1 w hw.tab).mono fun e w' ⟨he, k, os, hw'⟩ => ⟨he, by rw [hw']; exact Lib.below_grow _ w (Nat.le_refl _) k os⟩
theorem show_ (n : Int) (h0 : -9223372036854775808 ≤ n) (h1 : n ≤ 9223372036854775807) (w : World) (hw : LibW w) :
    Calls Tryd.prog 24 #[.int .i64 n] w fun e w' => e = .returned (.string (bs (Lib.itoa n))) ∧ Below w.heap.size w w' := by
  have H := Aside.mk (itoa_ n h0 h1 w hw)
  clear hw
  go_enter Tryd.func24, Tryd.ntmps24
  go_wp2_with (go_at_call 52; refine H.out.mono ?_; rintro e w' ⟨rfl, hb⟩)
  go_ret
  exact ⟨rfl, hb⟩
theorem fin_zero (w : World) (o : Obj) (dk : Array UInt8) (k : Nat) : ∃ os, (Sort.putRow (fun (b : UInt8) => Value.int .u8 (b.toNat : Int)) (w.alloc o) w.heap.size 0 dk).drewN k = Sort.grow (w.drewN k) os := by
  rw [Sort.alloc_eq_grow]
  obtain ⟨os', _, e⟩ := Sort.putRow_grow_new (fun (b : UInt8) => Value.int .u8 (b.toNat : Int)) w #[o] w.heap.size 0 dk (Nat.le_refl _)
  exact ⟨os', by rw [e]; rfl⟩
set_option maxHeartbeats 2000000 in
theorem formatU (u : Nat) (h64 : u < 18446744073709551616) (w : World) (hw : LibW w) :
    Calls Tryd.prog 77 #[.int .u64 u, .int .i64 10] w fun e w' => e = .returned (.string (bs (Lib.decDigits u))) ∧ Below w.heap.size w w' := by
  by_cases h100 : u < 100
  · have t1 : decide ((u : Int) < 100) = true := decide_eq_true (by omega)
    have e1 : IntKind.i64.wrap (u : Int) = (u : Int) := by rw [IntKind.wrap_i64]; omega
    have H := Aside.mk (fun w => Tryd.internal_strconv_small u h100 w)
    clear hw h100
    go_enter Tryd.func77, Tryd.ntmps77
    go_wp2_with (go_at_call 102; refine (H.out _).mono ?_; rintro e w' ⟨rfl, rfl⟩)
    go_ret
    exact ⟨rfl, Below.refl _ _⟩
  · have t1 : decide ((u : Int) < 100) = false := decide_eq_false (by omega)
    have hu1 : 1 ≤ u := by omega
    have hnd20 : Lib.nDigits u ≤ 20 := Lib.nDigits_le20 u h64
    have hb3 : Lib.nDigits u ≤ 24 := by omega
    have hal : Tryd.prog.arrayLen 133 = 24 := by simp [Program.arrayLen, Tryd.underlying133]
    have HT := Aside.mk hw.tab
    clear hw
    have hsl1 : ∀ W, (Instr.sliceAt 133 (.pointer (some ⟨w.heap.size, 0, none⟩)) none (some (.int .i64 (Lib.nDigits u : Int))) none).run Tryd.prog W = .ok (.slice (some ⟨w.heap.size, 0, none⟩) (Lib.nDigits u) 24) W := fun W => by
      rw [run_sliceAt_array_h W 133 ⟨w.heap.size, 0, none⟩ (by simp [Program.arrayLen, Program.elem, Tryd.underlying133]) .i64 (Lib.nDigits u : Int) (by omega) (by rw [hal]; omega)]
      go_simp
    have hH0 := Lib.holds_zero0 w 133 (Lib.nDigits u) hb3
    have hfmt := Tryd.internal_strconv_formatBase10 w.heap.size 0 24 u (Array.replicate (Lib.nDigits u) 0) (w.alloc (.cells Lib.zeros24 133)) hH0 (by rw [Array.size_replicate]; exact Lib.lt_pow_nDigits u) h64 (by rw [Array.size_replicate]; omega)
    rw [Array.size_replicate] at hfmt
    have HH0 := Aside.mk hH0
    have HFM := Aside.mk hfmt
    clear hH0 hfmt
    go_enter Tryd.func77, Tryd.ntmps77
    go_wp2_with (go_at_call 103; refine (Tryd.internal_strconv_numDigits u hu1 h64 _ (Lib.tabIs_alloc HT.out _)).mono ?_; rintro e w' ⟨rfl, rfl⟩)
    refine HFM.out.mono ?_
    rintro e w' ⟨rfl, k, v', dk, rfl, hF⟩
    have hcv : (convert 102 9 (.slice (some ⟨w.heap.size, 0, none⟩) (Lib.nDigits u) 24)).run Tryd.prog ((Sort.putRow (fun (b : UInt8) => Value.int .u8 (b.toNat : Int)) (w.alloc (.cells Lib.zeros24 133)) w.heap.size 0 dk).drewN k) = .ok (.string (bs (Lib.decDigits u))) ((Sort.putRow (fun (b : UInt8) => Value.int .u8 (b.toNat : Int)) (w.alloc (.cells Lib.zeros24 133)) w.heap.size 0 dk).drewN k) := by
      have h := run_convert_bytes_back (P := Tryd.prog) ((Sort.putRow (fun (b : UInt8) => Value.int .u8 (b.toNat : Int)) (w.alloc (.cells Lib.zeros24 133)) w.heap.size 0 dk).drewN k) 102 9 5 ⟨w.heap.size, 0, none⟩ 24 (Lib.decDigits u) Tryd.underlying102 Tryd.underlying5 Tryd.underlying9 (fun j hj => by
        rw [Lib.row_is_numeral hF j hj, Lib.add_plain, World.cell?_drewN]
        exact Sort.cell?_putRow (fun (b : UInt8) => Value.int .u8 (b.toNat : Int)) _ w.heap.size 0 _ dk HH0.out (by rw [hF.size, Array.size_replicate]) j (by rw [hF.size]; rw [Lib.decDigits_length] at hj; exact hj))
      rw [Lib.decDigits_length] at h
      exact h
    have HFB := Aside.mk (show Below w.heap.size w ((Sort.putRow (fun (b : UInt8) => Value.int .u8 (b.toNat : Int)) (w.alloc (.cells Lib.zeros24 133)) w.heap.size 0 dk).drewN k) by
      obtain ⟨os, eo⟩ := fin_zero w (.cells Lib.zeros24 133) dk k
      rw [eo]; exact Lib.below_grow _ w (Nat.le_refl _) k os)
    clear hF
    go_wp2
    go_ret
    exact ⟨rfl, HFB.out⟩
theorem showBig_ (u : Nat) (h64 : u < 18446744073709551616) (w : World) (hw : LibW w) :
    Calls Tryd.prog 25 #[.int .u64 u] w fun e w' => e = .returned (.string (bs (Lib.decDigits u))) ∧ Below w.heap.size w w' := by
  have H := Aside.mk (formatU u h64 w hw)
  clear hw
  go_enter Tryd.func25, Tryd.ntmps25
  go_wp2_with (first | (go_at_call 55; go_in) | (go_at_call 77; refine H.out.mono ?_; rintro e w' ⟨rfl, hb⟩))
  go_ret
  exact ⟨rfl, hb⟩
/-! ### numbers read -/
theorem bytesW_below {w w' : World} (h : w' = w ∨ ∃ t, w' = Lib.bytesWorld w 5 t) : Below w.heap.size w w' := by
  rcases h with rfl | ⟨t, rfl⟩
  · exact Below.refl _ _
  · exact Lib.bytesWorld_below w 5 t
theorem atoi_range {l : List UInt8} {v : Int} (h : Lib.atoiAll l = .ok v) : -9223372036854775808 ≤ v ∧ v ≤ 9223372036854775807 := by
  have := Lib.atoiAll_bounds h
  omega
theorem atoi_cases (l : List UInt8) : (∃ v, Lib.atoiAll l = .ok v) ∨ Lib.atoiAll l = Lib.atoiAll [] ∨ Lib.atoiAll l = .range := by
  cases h : Lib.atoiAll l
  · exact .inl ⟨_, rfl⟩
  · exact .inr (.inl rfl)
  · exact .inr (.inr rfl)
theorem big_cases (l : List UInt8) : (∃ v, Lib.parseUintB 64 l = .ok v) ∨ Lib.parseUintB 64 l = Lib.parseUintB 64 [] ∨ Lib.parseUintB 64 l = .range := by
  cases h : Lib.parseUintB 64 l
  · exact .inl ⟨_, rfl⟩
  · exact .inr (.inl rfl)
  · exact .inr (.inr rfl)
theorem str_eq (a b : List UInt8) : ((bs a).toList == (bs b).toList) = decide (a = b) := by
  rw [Lib.toList_data, Lib.toList_data, bs_data, bs_data]
  by_cases h : a = b
  · subst h; simp
  · rw [decide_eq_false h]; simpa using h
set_option maxHeartbeats 2000000 in
theorem num_w (s : ByteArray) (hs : s.size ≤ 1000000) (w : World) (hw : LibW w) :
    Calls Tryd.prog 18 #[.string s] w fun e w' => e = .returned (.tuple #[.int .i64 ((numOf s.data.toList).getD 0), .bool (numOf s.data.toList).isSome]) ∧ Below w.heap.size w w' := by
  have HW := Aside.mk hw
  clear hw
  rcases atoi_cases s.data.toList with ⟨v, h⟩ | h | h
  · obtain ⟨hv0, hv1⟩ := atoi_range h
    have H := Aside.mk (Tryd.strconv_Atoi_ok s (by omega) v h w)
    have HI := Aside.mk (fun w' (b : Below w.heap.size w w') => itoa_ v hv0 hv1 w' (HW.out.below b))
    have HQ := Aside.mk (str_eq (Lib.itoa v) s.data.toList)
    rw [data_bs] at HQ
    by_cases he : Lib.itoa v = s.data.toList
    · have HN := Aside.mk (show numOf s.data.toList = some v by unfold numOf; rw [h]; simp [he])
      have q1 : ((bs (Lib.itoa v)).toList == s.toList) = true := by rw [HQ.out, decide_eq_true he]
      clear h he
      go_enter Tryd.func18, Tryd.ntmps18
      go_wp2_with (first | (go_at_call 51; refine H.out.mono ?_; rintro e w' ⟨rfl, hb⟩; have HB := Aside.mk (bytesW_below hb); clear hb) | (go_at_call 52; refine (HI.out _ HB.out).mono ?_; rintro e w2 ⟨rfl, hb2⟩))
      go_ret2
      exact ⟨by rw [HN.out]; rfl, HB.out.trans (hb2.mono HB.out.size)⟩
    · have HN := Aside.mk (show numOf s.data.toList = none by unfold numOf; rw [h]; simp [he])
      have q1 : ((bs (Lib.itoa v)).toList == s.toList) = false := by rw [HQ.out, decide_eq_false he]
      clear h he
      go_enter Tryd.func18, Tryd.ntmps18
      go_wp2_with (first | (go_at_call 51; refine H.out.mono ?_; rintro e w' ⟨rfl, hb⟩; have HB := Aside.mk (bytesW_below hb); clear hb) | (go_at_call 52; refine (HI.out _ HB.out).mono ?_; rintro e w2 ⟨rfl, hb2⟩))
      go_ret2
      exact ⟨by rw [HN.out]; rfl, HB.out.trans (hb2.mono HB.out.size)⟩
  · obtain ⟨te, pe, hes⟩ := HW.out.es
    have H := Aside.mk (Tryd.strconv_Atoi_syntax s (by omega) h _ w hes (.inr ⟨te, pe, rfl⟩))
    have HN := Aside.mk (show numOf s.data.toList = none by unfold numOf; rw [h]; first | done | rfl)
    clear h hes
    go_enter Tryd.func18, Tryd.ntmps18
    go_wp2_with (go_at_call 51; refine H.out.mono ?_; rintro e w' ⟨n1, rfl, _, _, hb⟩; have HB := Aside.mk hb; clear hb)
    go_ret2
    exact ⟨by rw [HN.out]; rfl, HB.out⟩
  · obtain ⟨te, pe, hes⟩ := HW.out.er
    have H := Aside.mk (Tryd.strconv_Atoi_range s (by omega) h _ w hes (.inr ⟨te, pe, rfl⟩))
    have HN := Aside.mk (show numOf s.data.toList = none by unfold numOf; rw [h]; first | done | rfl)
    clear h hes
    go_enter Tryd.func18, Tryd.ntmps18
    go_wp2_with (go_at_call 51; refine H.out.mono ?_; rintro e w' ⟨n1, rfl, _, _, hb⟩; have HB := Aside.mk hb; clear hb)
    go_ret2
    exact ⟨by rw [HN.out]; rfl, HB.out⟩
set_option maxHeartbeats 2000000 in
theorem big_w (s : ByteArray) (hs : s.size ≤ 1000000) (w : World) (hw : LibW w) :
    Calls Tryd.prog 19 #[.string s] w fun e w' => e = .returned (.tuple #[.int .u64 (((bigOf s.data.toList).getD 0 : Nat) : Int), .bool (bigOf s.data.toList).isSome]) ∧ Below w.heap.size w w' := by
  have HW := Aside.mk hw
  clear hw
  rcases big_cases s.data.toList with ⟨v, h⟩ | h | h
  · have H := Aside.mk (Tryd.strconv_ParseUint_10_at64_ok s (by omega) v h w)
    rw [Lib.parseUintB_64] at h
    have hv1 := Lib.parseMag_lt h
    have HI := Aside.mk (fun w' (b : Below w.heap.size w w') => showBig_ v hv1 w' (HW.out.below b))
    have HQ := Aside.mk (str_eq (Lib.decDigits v) s.data.toList)
    rw [data_bs] at HQ
    by_cases he : Lib.decDigits v = s.data.toList
    · have HN := Aside.mk (show bigOf s.data.toList = some v by unfold bigOf; rw [h]; simp [he])
      have q1 : ((bs (Lib.decDigits v)).toList == s.toList) = true := by rw [HQ.out, decide_eq_true he]
      clear h he hv1
      go_enter Tryd.func19, Tryd.ntmps19
      go_wp2_with (first | (go_at_call 53; refine H.out.mono ?_; rintro e w' ⟨rfl, hb⟩; have HB := Aside.mk (bytesW_below (hb.imp id fun h => ⟨_, h⟩)); clear hb) | (go_at_call 25; refine (HI.out _ HB.out).mono ?_; rintro e w2 ⟨rfl, hb2⟩))
      go_ret2
      exact ⟨by rw [HN.out]; rfl, HB.out.trans (hb2.mono HB.out.size)⟩
    · have HN := Aside.mk (show bigOf s.data.toList = none by unfold bigOf; rw [h]; simp [he])
      have q1 : ((bs (Lib.decDigits v)).toList == s.toList) = false := by rw [HQ.out, decide_eq_false he]
      clear h he hv1
      go_enter Tryd.func19, Tryd.ntmps19
      go_wp2_with (first | (go_at_call 53; refine H.out.mono ?_; rintro e w' ⟨rfl, hb⟩; have HB := Aside.mk (bytesW_below (hb.imp id fun h => ⟨_, h⟩)); clear hb) | (go_at_call 25; refine (HI.out _ HB.out).mono ?_; rintro e w2 ⟨rfl, hb2⟩))
      go_ret2
      exact ⟨by rw [HN.out]; rfl, HB.out.trans (hb2.mono HB.out.size)⟩
  · obtain ⟨te, pe, hes⟩ := HW.out.es
    have H := Aside.mk (Tryd.strconv_ParseUint_10_at64_syntax s (by omega) h _ w hes (.inr ⟨te, pe, rfl⟩))
    rw [Lib.parseUintB_64] at h
    have HN := Aside.mk (show bigOf s.data.toList = none by unfold bigOf; rw [h]; first | done | rfl)
    clear h hes
    go_enter Tryd.func19, Tryd.ntmps19
    go_wp2_with (go_at_call 53; refine H.out.mono ?_; rintro e w' ⟨n1, rfl, _, _, hb⟩; have HB := Aside.mk hb; clear hb)
    go_ret2
    exact ⟨by rw [HN.out]; rfl, HB.out⟩
  · obtain ⟨te, pe, hes⟩ := HW.out.er
    have H := Aside.mk (Tryd.strconv_ParseUint_10_at64_range s (by omega) h _ w hes (.inr ⟨te, pe, rfl⟩))
    rw [Lib.parseUintB_64] at h
    have HN := Aside.mk (show bigOf s.data.toList = none by unfold bigOf; rw [h]; first | done | rfl)
    clear h hes
    go_enter Tryd.func19, Tryd.ntmps19
    go_wp2_with (go_at_call 53; refine H.out.mono ?_; rintro e w' ⟨n1, rfl, _, _, hb⟩; have HB := Aside.mk hb; clear hb)
    go_ret2
    exact ⟨by rw [HN.out]; rfl, HB.out⟩
/-! ### the library's Split, and lists -/
/-- Texts in a row, read: a block of texts that begins with these. -/
def Txts (w : World) (A : Option Addr) (ws : List (List UInt8)) : Prop := ws ≠ [] → ∃ b cl, A = some ⟨b, 0, none⟩ ∧ w.heap[b]? = some (.cells cl 9 (0, 0)) ∧ ∀ (j : Nat) (h : j < ws.length), cl[j]? = some (.string (bs ws[j]))
theorem Txts.below {w w' : World} {A : Option Addr} {ws : List (List UInt8)} (h : Txts w A ws) (b : Below w.heap.size w w') : Txts w' A ws := fun hne => by
  obtain ⟨g, cl, e, hb, hc⟩ := h hne
  exact ⟨g, cl, e, blk_below hb b, hc⟩
theorem Txts.at {w : World} {A : Option Addr} {ws : List (List UInt8)} (h : Txts w A ws) (j : Nat) (hj : j < ws.length) : ∃ ad, A = some ad ∧ w.cell? (ad.add j) = some (.string (bs ws[j])) := by
  obtain ⟨g, cl, e, hb, hc⟩ := h (fun e => by rw [e] at hj; simp at hj)
  exact ⟨_, e, by rw [add_plain, blk_cell hb]; exact hc j hj⟩
/-- Beside a row of another kind that grows. -/
theorem Txts.grown {w w' : World} {A : Option Addr} {ws : List (List UInt8)} {row : Option Nat} (h : Txts w A ws) (hg : w.grownBy w' row) (hne : ∀ g cl, w.heap[g]? = some (.cells cl 9 (0, 0)) → some g ≠ row) : Txts w' A ws := fun hn => by
  obtain ⟨g, cl, e, hb, hc⟩ := h hn
  exact ⟨g, cl, e, blk_grown hb hg (hne g cl hb), hc⟩
theorem splitC (s : ByteArray) (c : UInt8) (hs : s.size ≤ 1000000) (w : World) (hw : LibW w) :
    Calls Tryd.prog 48 #[.string s, .string ⟨#[c]⟩] w fun e w' => ∃ ad, e = .returned (.slice (some ad) (sp c s.data.toList).length (sp c s.data.toList).length) ∧ Txts w' (some ad) (sp c s.data.toList) ∧ Below w.heap.size w w' := by
  obtain ⟨m, hm⟩ := hw.ml
  refine (Tryd.strings_Split s ⟨#[c]⟩ m w (by omega) hm (Nat.le_refl 1)).mono ?_
  rintro e w' ⟨rfl, rfl⟩
  have hsp := splitB_sp s c
  have hlen : (Lib.splitB ⟨#[c]⟩ 0 (Lib.countB s ⟨#[c]⟩) s).length = Lib.countB s ⟨#[c]⟩ + 1 := Lib.splitB_all ⟨#[c]⟩ (Nat.le_refl 1) 0 _ s rfl
  have hl2 : (sp c s.data.toList).length = Lib.countB s ⟨#[c]⟩ + 1 := by rw [← hsp, List.length_map, hlen]
  refine ⟨_, by rw [hl2], fun _ => ⟨_, _, rfl, heap_alloc_new w _, fun j hj => ?_⟩, below_alloc (Below.refl _ _) _⟩
  have hj2 : j < (Lib.splitB ⟨#[c]⟩ 0 (Lib.countB s ⟨#[c]⟩) s).length := by rw [hlen, ← hl2]; exact hj
  simp only [List.getElem?_toArray, List.getElem?_map, List.getElem?_eq_getElem hj2, Option.map_some]
  have e1 : (sp c s.data.toList)[j] = (Lib.splitB ⟨#[c]⟩ 0 (Lib.countB s ⟨#[c]⟩) s)[j].data.toList := by
    have := List.getElem?_map (f := fun x : ByteArray => x.data.toList) (l := Lib.splitB ⟨#[c]⟩ 0 (Lib.countB s ⟨#[c]⟩) s) (i := j)
    rw [hsp, List.getElem?_eq_getElem hj, List.getElem?_eq_getElem hj2] at this
    simpa using this
  rw [e1, data_bs]
theorem sp_size (c : UInt8) (s : List UInt8) : ∀ w ∈ sp c s, w.length ≤ s.length := by
  induction s with
  | nil => intro w h; simp [sp] at h; subst h; simp
  | cons b l ih =>
    intro w h
    by_cases e : b = c
    · subst e
      rw [sp_hit] at h
      rcases List.mem_cons.1 h with rfl | h
      · simp
      · have := ih w h; simp; omega
    · obtain ⟨x, r, hx⟩ := sp_cons c l
      rw [sp_miss e l hx] at h
      rcases List.mem_cons.1 h with rfl | h
      · have := ih x (by rw [hx]; simp); simp; omega
      · have := ih w (by rw [hx]; exact List.mem_cons_of_mem _ h); simp; omega
theorem sp_count (c : UInt8) (s : List UInt8) : (sp c s).length ≤ s.length + 1 := by
  induction s with
  | nil => simp [sp]
  | cons b l ih =>
    by_cases e : b = c
    · subst e; rw [sp_hit]; simp; omega
    · obtain ⟨x, r, hx⟩ := sp_cons c l
      rw [sp_miss e l hx]
      rw [hx] at ih
      simp at ih ⊢; omega
end Go.Proofs.YtabcdcnnamflfaaDoor.Wd
