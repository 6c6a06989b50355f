/- The document's example of events' lines, and the events of a text: walked. Asked: the library's variables lie as laid. -/
import Derived.Test.YtabcdcnnamflfaaDoorTlE
import Derived.Test.YtabcdcnnamflfaaDoorTlP
import Derived.Test.YtabcdcnnamflfaaDoorWdH
set_option linter.unusedVariables false
set_option linter.unusedSimpArgs false
set_option maxRecDepth 100000
namespace Go.Proofs.YtabcdcnnamflfaaDoor.Wd
open Go.RowKit Go.Proofs.YtabcdcnnamflfaaDoorW.PrintWords Go.Proofs.YtabcdcnnamflfaaDoorW.PrintLast Go.Proofs.YtabcdcnnamflfaaDoorW.PrintMore
open QTe (EvOk In64 S76 k76 at_T76 rd_T76 k76_mk)
def ex1 : Ev := ⟨5, 0, 0, 2, 7, 0, [5, 6]⟩
def ex2 : Ev := ⟨2, 1, 6, 2, 7, 0, [5, 6]⟩
theorem itoa1 (n : Nat) (h : n < 10) : Lib.itoa (n : Int) = [UInt8.ofNat (48 + n)] := by
  unfold Lib.itoa
  rw [if_neg (by omega), Int.toNat_natCast, Lib.decDigits_one h]
theorem ex_txt : listTxt [5, 6] = [53, 44, 54] := by
  unfold listTxt
  rw [if_neg (by decide)]
  have h1 := itoa1 5 (by decide)
  have h2 := itoa1 6 (by decide)
  simp only [List.map_cons, List.map_nil]
  rw [show (5 : Int) = ((5 : Nat) : Int) from rfl, show (6 : Int) = ((6 : Nat) : Int) from rfl, h1, h2]
  decide
theorem ex1_line : lineE ex1 = [48, 32, 112, 117, 116, 32, 55, 32, 50, 32, 53, 44, 54] := by
  have h : wds ex1 = [Lib.itoa 0, kindT 5, Lib.decDigits 7, Lib.itoa 2, listTxt [5, 6]] := rfl
  have h0 := itoa1 0 (by decide)
  have h2 := itoa1 2 (by decide)
  rw [(lineE_clean (show cleanB ex1 = true by decide)).1, h, ex_txt, Lib.decDigits_one (by decide), show (0 : Int) = ((0 : Nat) : Int) from rfl, show (2 : Int) = ((2 : Nat) : Int) from rfl, h0, h2]
  decide
theorem ex2_line : lineE ex2 = [49, 32, 114, 101, 116, 117, 114, 110, 32, 114, 101, 99, 101, 105, 118, 101, 32, 48, 32, 55, 32, 50, 32, 53, 44, 54] := by
  have h : wds ex2 = [Lib.itoa 1, kindT 2, opX 6, Lib.itoa 0, Lib.decDigits 7, Lib.itoa 2, listTxt [5, 6]] := rfl
  have h0 := itoa1 0 (by decide)
  have h1 := itoa1 1 (by decide)
  have h2 := itoa1 2 (by decide)
  rw [(lineE_clean (show cleanB ex2 = true by decide)).1, h, ex_txt, Lib.decDigits_one (by decide), show (0 : Int) = ((0 : Nat) : Int) from rfl, show (1 : Int) = ((1 : Nat) : Int) from rfl, show (2 : Int) = ((2 : Nat) : Int) from rfl, h0, h1, h2, show opX 6 = opT 6 by decide]
  decide
theorem few56 : ∀ n ∈ ([5, 6] : List Int), In64 n := by decide
theorem ex_ok (k t o : Int) (hk : In64 t) (ho : In64 o) : EvOk ⟨k, t, o, 2, 7, 0, [5, 6]⟩ := ⟨hk, ho, show In64 2 by decide, show (0 : Int) ≤ 7 ∧ (7 : Int) < 18446744073709551616 by decide, show In64 0 by decide, few56⟩
set_option maxHeartbeats 4000000 in
theorem tlive_ (w : World) (hw : LibW w) : Calls Tryd.prog 41 #[] w fun e w' => e = .returned (.bool true) ∧ Below w.heap.size w w' := by
  have HW := Aside.mk hw
  have H1 := Aside.mk (read_ ex1 (by decide) (ex_ok 5 0 0 (by unfold In64; omega) (by unfold In64; omega)) (by decide) w hw)
  rw [ex1_line] at H1
  clear hw
  go_enter Tryd.func41, Tryd.ntmps41
  go_wp2_with fail
  refine H1.out.mono ?_
  rintro r w1 ⟨A, c, rfl, hc, hn, hb⟩
  have HN := Aside.mk hn
  have HB := Aside.mk hb
  clear hn hb
  have HO1 := Aside.mk (below_alloc HB.out (.cells #[.int .i64 5, .int .i64 ex1.thread, .int .i64 ex1.op, .int .i64 ex1.n, .int .u64 7, .int .i64 ex1.code, .slice A ex1.data.length c] 76))
  have HO2 := Aside.mk (below_alloc HO1.out (.cells #[.int .i64 5, .int .i64 6] 3))
  have HLI := Aside.mk (lit_int (w := ((w1.alloc (.cells #[.int .i64 5, .int .i64 ex1.thread, .int .i64 ex1.op, .int .i64 ex1.n, .int .u64 7, .int .i64 ex1.code, .slice A ex1.data.length c] 76)).alloc (.cells #[.int .i64 5, .int .i64 6] 3))) (b := w1.heap.size + 1) [5, 6] (by have := heap_alloc_new (w1.alloc (.cells #[.int .i64 5, .int .i64 ex1.thread, .int .i64 ex1.op, .int .i64 ex1.n, .int .u64 7, .int .i64 ex1.code, .slice A ex1.data.length c] 76)) (.cells #[.int .i64 5, .int .i64 6] 3); simpa using this) (by decide))
  have q2 : ((bs (lineE ex2)).toList == [49, 32, 114, 101, 116, 117, 114, 110, 32, 114, 101, 99, 101, 105, 118, 101, 32, 48, 32, 55, 32, 50, 32, 53, 44, 54]) = true := by rw [bs_toList, ex2_line]; decide
  go_wp2_with (go_at_call 43; refine (line_e ex2 (some ⟨w1.heap.size + 1, 0, none⟩) 2 _ ⟨HLI.out, Nat.le_refl _, few56⟩ (ex_ok 2 1 6 (by decide) (by decide)) (by decide) (HW.out.below HO2.out)).mono ?_; rintro r w4 ⟨rfl, hb⟩; have HB4 := Aside.mk (HO2.out.trans (hb.mono HO2.out.size)); clear hb)
  go_ret
  exact ⟨rfl, HB4.out⟩
/-! ### the events of a text -/
theorem info76 : (Tryd.prog.info? 76).map (fun i => (i.zero, i.size, i.bytes)) = some (some (.agg #[.int .i64 0, .int .i64 0, .int .i64 0, .int .i64 0, .int .u64 0, .int .i64 0, .slice none 0 0]), 7, 72) := by kernel_rfl
def cellsE (x : S76) (A : Option Addr) (c : Nat) : List Value := [.int .i64 x.f0, .int .i64 x.f1, .int .i64 x.f2, .int .i64 x.f3, .int .u64 x.f4, .int .i64 x.f5, .slice A x.f6.length c]
/-- Events in a row that one made oneself. -/
def OutE (w : World) (base : Nat) (v : Value) (xs : List S76) : Prop := ∃ rows : List (List Value), rows.length = xs.length ∧ Kd.R (Kd.raw 7) 76 w base (fun _ => True) v rows ∧ ∀ (j : Nat) (h : j < xs.length), ∃ A c, rows[j]? = some (cellsE xs[j] A c) ∧ xs[j].f6.length ≤ c ∧ Nums w A xs[j].f6
theorem OutE.below {w w' : World} {base : Nat} {v : Value} {xs : List S76} (h : OutE w base v xs) (b : Below w.heap.size w w') : OutE w' base v xs := by
  obtain ⟨rows, h1, h2, h3⟩ := h
  refine ⟨rows, h1, Kd.R_below h2 b, fun j hj => ?_⟩
  obtain ⟨A, c, e1, e2, e3⟩ := h3 j hj
  exact ⟨A, c, e1, e2, e3.below b⟩
theorem OutE.nil (w : World) (base : Nat) : OutE w base (.slice none 0 0) [] := ⟨[], rfl, Kd.R_nil _ _ _ _ _, fun j h => absurd h (by simp)⟩
theorem OutE.slice {w : World} {base : Nat} {v : Value} {xs : List S76} (h : OutE w base v xs) : ∃ A c, v = .slice A xs.length c := by
  obtain ⟨rows, h1, h2, _⟩ := h
  obtain ⟨A, c, e, _⟩ := Kd.R_reads h2
  rw [h1] at e
  exact ⟨A, c, e⟩
theorem OutE.reads {w : World} {base : Nat} {v : Value} {xs : List S76} (h : OutE w base v xs) (hl : ∀ x ∈ xs, x.f6.length ≤ 1000000) : ∃ A c, v = .slice A xs.length c ∧ xs.length ≤ c ∧ Kd.C k76 w A xs.length xs := by
  obtain ⟨rows, h1, h2, h3⟩ := h
  obtain ⟨A, c, e, hc, hC⟩ := Kd.R_reads h2
  rw [h1] at e hc hC
  obtain ⟨e1, e2, e3⟩ := hC
  refine ⟨A, c, e, hc, ⟨rfl, by rw [← h1] at *; exact e2, fun h0 => ?_⟩⟩
  obtain ⟨ad, ea, hr⟩ := e3 h0
  refine ⟨ad, ea, fun j p hp => ?_⟩
  obtain ⟨hj, rfl⟩ := List.getElem?_eq_some_iff.1 hp
  obtain ⟨A2, c2, r1, r2, r3⟩ := h3 j hj
  obtain ⟨cs, g1, ⟨g2, _, _⟩, g3⟩ := hr j _ r1
  subst g2
  exact ⟨_, rfl, k76_mk w xs[j] r2 (r3.c (hl _ (List.getElem_mem hj))), g3⟩
theorem OutE.away {w : World} {base : Nat} {v : Value} {rows : List (List Value)} (h : Kd.R (Kd.raw 7) 76 w base (fun _ => True) v rows) : ∀ g cl, w.heap[g]? = some (.cells cl 3 (0, 0)) → some g ≠ v.ownBlock := by
  intro g cl hg e
  obtain ⟨inner, ho, _⟩ := h.2
  rcases ho.2 with ⟨hv, _⟩ | ⟨g2, cap, cur, hv, _, hb, _⟩
  · rw [hv] at e; simp [Value.ownBlock] at e
  · rw [hv] at e
    simp only [Value.ownBlock] at e
    injection e with e
    subst e
    rw [hg] at hb
    injection hb with hb
    injection hb with _ hb _
    exact absurd hb (by decide)
theorem away9 {w : World} {base : Nat} {v : Value} {rows : List (List Value)} (h : Kd.R (Kd.raw 7) 76 w base (fun _ => True) v rows) : ∀ g cl, w.heap[g]? = some (.cells cl 9 (0, 0)) → some g ≠ v.ownBlock := by
  intro g cl hg e
  obtain ⟨inner, ho, _⟩ := h.2
  rcases ho.2 with ⟨hv, _⟩ | ⟨g2, cap, cur, hv, _, hb, _⟩
  · rw [hv] at e; simp [Value.ownBlock] at e
  · rw [hv] at e
    simp only [Value.ownBlock] at e
    injection e with e
    subst e
    rw [hg] at hb
    injection hb with hb
    injection hb with _ hb _
    exact absurd hb (by decide)
theorem OutE.snoc {w w' : World} {base : Nat} {v v' : Value} {xs : List S76} {rows : List (List Value)} (x : S76) (A : Option Addr) (c : Nat) (h1 : rows.length = xs.length) (h2 : Kd.R (Kd.raw 7) 76 w base (fun _ => True) v rows)
    (h3 : ∀ (j : Nat) (h : j < xs.length), ∃ A c, rows[j]? = some (cellsE xs[j] A c) ∧ xs[j].f6.length ≤ c ∧ Nums w A xs[j].f6) (hg : w.grownBy w' v.ownBlock) (hx : x.f6.length ≤ c) (hn : Nums w A x.f6)
    (h4 : Kd.R (Kd.raw 7) 76 w' base (fun _ => True) v' (rows ++ [cellsE x A c])) : OutE w' base v' (xs ++ [x]) := by
  refine ⟨_, by simp [h1], h4, fun j hj => ?_⟩
  by_cases hlt : j < xs.length
  · obtain ⟨A2, c2, e1, e2, e3⟩ := h3 j hlt
    refine ⟨A2, c2, ?_, ?_, ?_⟩
    · rw [List.getElem?_append_left (by omega), e1, List.getElem_append_left hlt]
    · rw [List.getElem_append_left hlt]; exact e2
    · rw [List.getElem_append_left hlt]; exact e3.grown hg (OutE.away h2)
  · have hj2 : j = xs.length := by simp at hj; omega
    subst hj2
    refine ⟨A, c, ?_, ?_, ?_⟩
    · have := List.getElem?_concat_length (l := rows) (a := cellsE x A c)
      rw [h1] at this
      rw [this]; simp
    · simpa using hx
    · simpa using hn.grown hg (OutE.away h2)
theorem lines_len (xs : List S76) : (lines xs).length = xs.length := by unfold lines; rw [List.length_map]
theorem lines_at (xs : List S76) (i : Nat) (h : i < xs.length) (h2 : i < (lines xs).length) : (lines xs)[i] = lineE (evOf xs[i]) := by simp [lines]
theorem one7 (x : S76) (A : Option Addr) (c : Nat) : ∀ u ∈ cellsE x A c, u.oneCell' = true := by
  intro u hu
  simp only [cellsE, List.mem_cons, List.not_mem_nil, or_false] at hu
  rcases hu with rfl | rfl | rfl | rfl | rfl | rfl | rfl <;> rfl
theorem clean_at {xs : List S76} (h : clean xs = true) (j : Nat) (hj : j < xs.length) : cleanB (evOf xs[j]) = true := by
  unfold clean at h
  rw [List.all_eq_true] at h
  exact h _ (List.getElem_mem hj)
theorem text_lines {xs : List S76} (h : clean xs = true) : linesOf (textOf (lines xs)) = (some (lines xs), 0) := by
  refine lines_text _ (fun l hl => ?_) (fun l hl => ?_)
  · unfold lines at hl
    obtain ⟨x, hx, rfl⟩ := List.mem_map.1 hl
    obtain ⟨j, hj, rfl⟩ := List.mem_iff_getElem.1 hx
    exact (lineE_clean (clean_at h j hj)).2.2.2.2
  · unfold lines at hl
    obtain ⟨x, hx, rfl⟩ := List.mem_map.1 hl
    obtain ⟨j, hj, rfl⟩ := List.mem_iff_getElem.1 hx
    exact (lineE_clean (clean_at h j hj)).2.1
theorem read_x (x : S76) (hc : cleanB (evOf x) = true) (ho : EvOk (evOf x)) (hl : x.f6.length ≤ 100) (w : World) (hw : LibW w) :
    Calls Tryd.prog 62 #[.string (bs (lineE (evOf x)))] w fun r w' => ∃ A c, r = .returned (.tuple #[.agg #[.int .i64 x.f0, .int .i64 x.f1, .int .i64 x.f2, .int .i64 x.f3, .int .u64 x.f4, .int .i64 x.f5, .slice A x.f6.length c], .bool true]) ∧ x.f6.length ≤ c ∧ Nums w' A x.f6 ∧ Below w.heap.size w w' :=
  read_ (evOf x) hc ho hl w hw
set_option maxHeartbeats 4000000 in
theorem events_ (w : World) (xs : List S76) (hok : ∀ x ∈ xs, EvOk (evOf x)) (hf : Few xs 100) (hc : clean xs = true) (hlen : (textOf (lines xs)).length ≤ 65536) (hw : LibW w) :
    Calls Tryd.prog 46 #[.string (bs (textOf (lines xs)))] w fun e w' => ∃ v, e = .returned (.tuple #[v, .int .i64 0, .int .i64 0]) ∧ OutE w' w.heap.size v xs ∧ Below w.heap.size w w' := by
  have HOK := Aside.mk hok
  have HF := Aside.mk hf
  have HC := Aside.mk hc
  have HLE := Aside.mk hlen
  have HW := Aside.mk hw
  have H1 := Aside.mk (lines_w (bs (textOf (lines xs))) (by rw [bs_size]; omega) w hw)
  have HU := Tryd.underlying76
  clear hok hf hc hlen hw
  go_enter Tryd.func46, Tryd.ntmps46
  go_wp2_with fail
  refine H1.out.mono ?_
  rintro r w1 ⟨hlr, hb⟩
  unfold LinesRes at hlr
  rw [bs_data, text_lines HC.out] at hlr
  rw [bs_size] at hlr
  have HB0 := Aside.mk hb
  clear hb H1
  rcases hlr with ⟨h1, _⟩ | ⟨_, k, h2, _⟩ | ⟨_, ls, v, h2, hO, rfl⟩
  · exact absurd h1 (by have := HLE.out; omega)
  · cases h2
  injection h2 with h2
  injection h2 with h2
  subst h2
  obtain ⟨A, c, rfl, hT⟩ := hO.reads
  have HT0 := Aside.mk hT
  have HLN := Aside.mk (lines_len xs)
  clear hO hT
  obtain ⟨n, hn⟩ : ∃ n, (lines xs).length = n := ⟨_, rfl⟩
  rw [hn] at HLN ⊢
  have HN := Aside.mk hn
  clear hn
  go_wp2_with fail
  go_loopw [8, 25] (fun v y wr => ∃ i : Nat, i ≤ n ∧ y = .int .i64 i ∧ Aside (OutE wr w.heap.size v (xs.take i)) ∧ Aside (Txts wr A (lines xs)) ∧ Aside (Below w.heap.size w wr)) (fun _ y _ => n - (intOf y).toNat)
  case atStart => exact ⟨0, Nat.zero_le _, rfl, ⟨OutE.nil _ _⟩, HT0, HB0⟩
  case round =>
    clear HT0 HB0
    obtain ⟨i, hi, rfl, HO, HT, HB⟩ := hrel
    by_cases hlt : i < n
    · have t1 : decide ((i : Int) < (n : Int)) = true := decide_eq_true (by omega)
      have t2 : decide (i < n) = true := decide_eq_true hlt
      have t3 : (i : Int) < (n : Int) := by omega
      have HLT := Aside.mk hlt
      have hix : i < xs.length := by have := HLN.out; omega
      have hil : i < (lines xs).length := by rw [lines_len]; exact hix
      have ei := i1 (show i < 4611686018427387904 by have := HF.out.n; omega)
      obtain ⟨ad, rfl, hx⟩ := HT.out.at i hil
      have el : (lines xs)[i] = lineE (evOf xs[i]) := lines_at xs i hix hil
      rw [el] at hx
      have HRD := Aside.mk (read_x xs[i] (clean_at HC.out i hix) (HOK.out _ (List.getElem_mem hix)) (HF.out.d _ (List.getElem_mem hix)) wr (HW.out.below HB.out))
      have HTK := Aside.mk (List.take_succ_eq_append_getElem hix)
      have HIX := Aside.mk (show i ≤ 100 by have := HF.out.n; omega)
      obtain ⟨Av, cv, ev⟩ := HO.out.slice
      rw [List.length_take, Nat.min_eq_left (by omega)] at ev
      subst ev
      generalize xs[i] = x at *
      clear el hil hix hlt hi
      go_wp2_with (go_at_call 62; refine HRD.out.mono ?_)
      rintro r w2 ⟨A2, c2, rfl, hc2, hn2, hb⟩
      have HB2 := Aside.mk (HB.out.trans (hb.mono HB.out.size))
      have HO2 := Aside.mk (HO.out.below hb)
      have HT2 := Aside.mk (HT.out.below hb)
      have HC2 := Aside.mk hc2
      have HN2 := Aside.mk hn2
      clear hb hc2 hn2 HO HT HB HRD hx
      have HB3 := Aside.mk (below_alloc HB2.out (.cells #[.int .i64 x.f0, .int .i64 x.f1, .int .i64 x.f2, .int .i64 x.f3, .int .u64 x.f4, .int .i64 x.f5, .slice A2 x.f6.length c2] 76))
      have HBA := Aside.mk (below_alloc (Below.refl w2.heap.size w2) (.cells #[.int .i64 x.f0, .int .i64 x.f1, .int .i64 x.f2, .int .i64 x.f3, .int .u64 x.f4, .int .i64 x.f5, .slice A2 x.f6.length c2] 76))
      have HO3 := Aside.mk (HO2.out.below HBA.out)
      have HT3 := Aside.mk (HT2.out.below HBA.out)
      have HN3 := Aside.mk (HN2.out.below HBA.out)
      obtain ⟨rows, hr1, hr2, hr3⟩ := HO3.out
      have HR1 := Aside.mk hr1
      have HR2 := Aside.mk hr2
      have HR3 := Aside.mk hr3
      have HRL := Aside.mk (show rows.length ≤ 100 by rw [hr1, List.length_take]; have := HIX.out; omega)
      clear hr1 hr2 hr3 HO2 HO3 HT2 HN2
      have HBX := Aside.mk (heap_alloc_new w2 (.cells #[.int .i64 x.f0, .int .i64 x.f1, .int .i64 x.f2, .int .i64 x.f3, .int .u64 x.f4, .int .i64 x.f5, .slice A2 x.f6.length c2] 76))
      go_upto_region 11 with (fail)
      clear HB2 HBA
      generalize w2.alloc (.cells #[.int .i64 x.f0, .int .i64 x.f1, .int .i64 x.f2, .int .i64 x.f3, .int .u64 x.f4, .int .i64 x.f5, .slice A2 x.f6.length c2] 76) = w5 at *
      generalize w2.heap.size = g5 at *
      obtain ⟨d0, d1, d2, d3, d4, d5, d6⟩ := blk_cell7 HBX.out
      go_wp2_with ((with_reducible refine gate_builtin (b := .append) (xs := #[.tmp 39, .tmp 41]) rfl ?_); at_builtin; refine Kd.R_append (Kd.raw 7) (w0 := w) w.heap.size rfl (.tmp 39) (.tmp 41) 72 76 (.agg #[.int .i64 0, .int .i64 0, .int .i64 0, .int .i64 0, .int .u64 0, .int .i64 0, .slice none 0 0]) 72 rfl Tryd.underlying72 info76 rfl (by decide) (by omega) (.slice Av i cv) rows (cellsE x A2 c2) [.int .i64 x.f0, .int .i64 x.f1, .int .i64 x.f2, .int .i64 x.f3, .int .u64 x.f4, .int .i64 x.f5, .slice A2 x.f6.length c2] (fun _ => True) (fun _ => False) rfl rfl ?aP (fun _ hk => hk.elim) ?aF ?aO ?aB ?aS ?aL ?_; (case aP => exact ⟨rfl, rfl, one7 x A2 c2⟩); (case aB => exact HB3.out); (case aF => exact (fun _ _ => trivial)); (case aO => exact HR2.out); (case aS => exact HB3.out.size); (case aL => have := HRL.out; omega); intro vN wN hoN hbN hgN hatN; have HON := Aside.mk (OutE.snoc x A2 c2 HR1.out HR2.out HR3.out hgN HC2.out HN3.out hoN); have HBN := Aside.mk hbN; have HTN := Aside.mk (HT3.out.grown hgN (away9 HR2.out)); clear hoN hbN hgN hatN)
      go_roundw
      case rel => exact ⟨i + 1, HLT.out, by first | rfl | simp, by rw [HTK.out]; exact HON, HTN, HBN⟩
      case measure =>
        have := HLT.out
        have e9 : ((i : Int) + 1).toNat = i + 1 := by omega
        simp only [intOf, e9, Int.toNat_natCast]
        omega
    · have t1 : decide ((i : Int) < (n : Int)) = false := decide_eq_false (by omega)
      have t2 : decide (i < n) = false := decide_eq_false hlt
      have HE := Aside.mk (show OutE wr w.heap.size u8 xs from by
        have := HO.out
        rwa [List.take_of_length_le (by have := HLN.out; omega)] at this)
      clear hi hlt HO
      go_wp2
      go_ret3
      exact ⟨_, rfl, HE.out, HB.out⟩
end Go.Proofs.YtabcdcnnamflfaaDoor.Wd
