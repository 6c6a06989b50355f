/- The program's Parse at a text with a configuration: walked. Asked: the library's variables lie as laid. -/
import Derived.Test.YtabcdcnnamflfaaDoorSrA
import Derived.RegionTactic
import Derived.BigRegion
set_option linter.unusedVariables false
set_option linter.unusedSimpArgs false
set_option maxRecDepth 100000
namespace Go.Proofs.YtabcdcnnamflfaaDoor.Wd
open Go.RowKit Go.Proofs.YtabcdcnnamflfaaDoorW.PrintWords Go.Proofs.YtabcdcnnamflfaaDoorW.PrintLast Go.Proofs.YtabcdcnnamflfaaDoorW.PrintMore
def cfE (c : Cf) (A : Option Addr) (n : Nat) (u : Value) : Array Value := #[.int .i64 c.variant, .int .i64 c.width, .int .i64 c.cap, .int .i64 c.prod, .int .u64 ((c.start : Nat) : Int), .slice A c.up.length n, u]
/-- What stands while a text is parsed. -/
structure SS (w0 w : World) (E g : Nat) (ws : List (List UInt8)) (c : Cf) (A : Option Addr) (n : Nat) (u : Value) (xs : List Ac) : Prop where
  b : Below w0.heap.size w0 w
  r : w.heap[w0.heap.size]? = some (.cells #[.int .i64 0, .int .i64 0, .int .i64 0, .int .i64 0, .int .u64 0, .slice none 0 0, .slice none 0 0] 67 (0, 0))
  e : w.heap[E]? = some (.cells (cfE c A n u) 67 (0, 0))
  ne : w0.heap.size ≠ E
  ge : w0.heap.size ≤ E
  t : ∃ cl, w.heap[g]? = some (.cells cl 9 (0, 0)) ∧ ∀ j (hj : j < ws.length), cl[j]? = some (.string (bs ws[j]))
  up : UpS w A c.up
  ow : OutA w w0.heap.size u xs
section
variable {w0 w w' : World} {E g : Nat} {ws : List (List UInt8)} {c : Cf} {A : Option Addr} {n : Nat} {u u' : Value} {xs xs' : List Ac}
theorem SS.step (h : SS w0 w E g ws c A n u xs) (b : Below w.heap.size w w') : SS w0 w' E g ws c A n u xs := by
  obtain ⟨cl, h1, h2⟩ := h.t
  exact ⟨h.b.trans (b.mono h.b.size), blk_below h.r b, blk_below h.e b, h.ne, h.ge, ⟨cl, blk_below h1 b, h2⟩, h.up.below b, h.ow.below b⟩
theorem SS.at (h : SS w0 w E g ws c A n u xs) (j : Nat) (hj : j < ws.length) : w.cell? ⟨g, j, none⟩ = some (.string (bs ws[j])) := by
  obtain ⟨cl, h1, h2⟩ := h.t
  exact (blk_cell h1 j).trans (h2 j hj)
/-- What stands while an act is appended: the row has grown, its cell has not been laid yet. -/
structure SG (w0 w : World) (E g : Nat) (ws : List (List UInt8)) (c : Cf) (A : Option Addr) (n : Nat) (u u' : Value) (xs : List Ac) : Prop where
  b : Below w0.heap.size w0 w
  r : w.heap[w0.heap.size]? = some (.cells #[.int .i64 0, .int .i64 0, .int .i64 0, .int .i64 0, .int .u64 0, .slice none 0 0, .slice none 0 0] 67 (0, 0))
  e : w.heap[E]? = some (.cells (cfE c A n u) 67 (0, 0))
  ne : w0.heap.size ≠ E
  ge : w0.heap.size ≤ E
  t : ∃ cl, w.heap[g]? = some (.cells cl 9 (0, 0)) ∧ ∀ j (hj : j < ws.length), cl[j]? = some (.string (bs ws[j]))
  up : UpS w A c.up
  ow : OutA w w0.heap.size u' xs
theorem SS.grown (h : SS w0 w E g ws c A n u xs) {row : Option Nat} (hg : w.grownBy w' row) (b : Below w0.heap.size w0 w') (ha : ∀ t, t ≠ 50 → ∀ g cl, w.heap[g]? = some (.cells cl t (0, 0)) → some g ≠ row) (ho : OutA w' w0.heap.size u' xs') : SG w0 w' E g ws c A n u u' xs' := by
  obtain ⟨cl, h1, h2⟩ := h.t
  exact ⟨b, blk_grown h.r hg (ha 67 (by decide) _ _ h.r), blk_grown h.e hg (ha 67 (by decide) _ _ h.e), h.ne, h.ge, ⟨cl, blk_grown h1 hg (ha 9 (by decide) _ _ h1), h2⟩, h.up.grown hg (ha 37 (by decide)) (ha 3 (by decide)), ho⟩
theorem SG.put (h : SG w0 w E g ws c A n u u' xs) : SS w0 (w.setCell ⟨E, 6, none⟩ u') E g ws c A n u' xs := by
  obtain ⟨cl, h1, h2⟩ := h.t
  exact ⟨h.b.setCell h.ge _, blk_far h.r h.ne _, by have := blk_set h.e 6 u'; simpa [cfE] using this, h.ne, h.ge, ⟨cl, blk_far h1 (fun e2 => blk_ne h1 h.e (by decide) e2) _, h2⟩, h.up.set h.e (by decide) (by decide) 6 u', h.ow.set (by decide) (by decide) h.e 6 u'⟩
end
theorem next_act {st : PS} {l : List UInt8} (h1 : resA l = true) (h2 : ¬ (4096 : Int) - st.acts.length < cntA l) (h3 : ¬ (st.more = true ∧ (valA l).op = 0 ∧ (valA l).thread = st.last)) : stepL st l = some ⟨st.acts ++ List.replicate (cntA l).toNat (valA l), (valA l).thread, decide ((valA l).op = 0) && decide (cntA l < 1000)⟩ := by
  unfold stepL
  rw [if_neg (by rw [h1]; decide), if_neg h2, if_neg h3]
theorem run_next {ls : List (List UInt8)} {st s2 : PS} {j : Nat} (hj : j < ls.length) (h : runL ps0 (ls.take j) = some st) (h2 : stepL st ls[j] = some s2) : runL ps0 (ls.take (j + 1)) = some s2 := by
  rw [runL_succ ps0 ls j hj, h]
  exact h2
theorem at_tail (l : List UInt8) (ls : List (List UInt8)) (j : Nat) (h : j < ls.length) (h2 : 1 + j < (l :: ls).length) : (l :: ls)[1 + j] = ls[j] := by
  simp only [show 1 + j = j + 1 by omega, List.getElem_cons_succ]
theorem OutA.lt {w : World} {base : Nat} {v : Value} {xs : List Ac} (h : OutA w base v xs) : some w.heap.size ≠ v.ownBlock := by
  obtain ⟨rows, _, h2, _⟩ := h
  intro e2
  obtain ⟨inner, ho, _⟩ := h2.2
  rcases ho.2 with ⟨hv, _⟩ | ⟨g2, cap, cur, hv, _, hb, _⟩
  · rw [hv] at e2; simp [Value.ownBlock] at e2
  · rw [hv] at e2
    simp only [Value.ownBlock] at e2
    injection e2 with e2
    subst e2
    exact absurd (blk_lt hb) (Nat.lt_irrefl _)
theorem own_new {Q n : Nat} {v v1 : Value} (h : some Q ≠ v.ownBlock) (hq : Q < n) (hat : v1.ownBlock = v.ownBlock ∨ ∃ b, v1.ownBlock = some b ∧ n ≤ b) : some Q ≠ v1.ownBlock := by
  rcases hat with hat | ⟨b, hb, hle⟩
  · rw [hat]; exact h
  · rw [hb]
    intro e
    injection e with e
    omega
theorem rep_len (xs : List Ac) (m : Nat) (x : Ac) : (xs ++ List.replicate m x).length = xs.length + m := by simp
theorem rep_snoc (xs : List Ac) (m : Nat) (x : Ac) : xs ++ List.replicate m x ++ [x] = xs ++ List.replicate (m + 1) x := by rw [List.replicate_succ', List.append_assoc]
theorem tn3m (m : Nat) : ((m : Int) + 1).toNat = m + 1 := by omega
theorem meas1 {m k : Nat} (h : m < k) : k - (m + 1) < k - m := by omega
theorem nat_small {n : Nat} (h : n ≤ 4096) : n < 4611686018427387904 := by omega
theorem room {n m k : Nat} (h : n + k ≤ 4096) (hm : m < k) : n + m ≤ 4096 := by omega
theorem room2 {n k : Nat} (h : (k : Int) ≤ 4096 - n) : n + k ≤ 4096 := by omega
theorem w64s {n : Nat} (h : n ≤ 4096) : wrap64 ((4096 : Int) - n) = 4096 - n := by unfold wrap64; omega
theorem w64a {j : Nat} (h : j ≤ 65536) : wrap64 ((j : Int) + 2) = (j : Int) + 2 := by unfold wrap64; omega
theorem cnt_k {l : List UInt8} : ∃ k : Nat, cntA l = (k : Int) ∧ (cntA l).toNat = k := ⟨(cntA l).toNat, by have := (valA_ok l).2.2.1; omega, rfl⟩
set_option maxHeartbeats 16000000 in
theorem parse_main (s : List UInt8) (hs : s.length ≤ 65536) (w : World) (hw : LibW w) (l : List UInt8) (ls : List (List UInt8)) (hl : linesOf s = (some (l :: ls), 0)) (hr : resC l = true) :
    Calls Tryd.prog 38 #[.string (bs s)] w fun e w' => ParseRes s w w' e := by
  have HW := Aside.mk hw
  have HS := Aside.mk (lines_w (bs s) (by rw [bs_size]; omega))
  have HSL := Aside.mk hs
  have HLL := Aside.mk hl
  have HRC := Aside.mk hr
  have HLX := Aside.mk (fun (x : List UInt8) (hx : x ∈ l :: ls) => show x.length ≤ 65536 by have := line_len hl hx; omega)
  have HLN := Aside.mk (show ls.length ≤ 65535 by have := lines_some hl; simp only [List.length_cons] at this; omega)
  have HVC := Aside.mk (valC_ok l)
  have HB := Aside.mk (below_alloc (Below.refl w.heap.size w) (.cells #[.int .i64 0, .int .i64 0, .int .i64 0, .int .i64 0, .int .u64 0, .slice none 0 0, .slice none 0 0] 67))
  have HR := Aside.mk (heap_alloc_new w (.cells #[.int .i64 0, .int .i64 0, .int .i64 0, .int .i64 0, .int .u64 0, .slice none 0 0, .slice none 0 0] 67))
  clear hs hw hl hr
  go_enter Tryd.func38, Tryd.ntmps38
  go_wp2_with fail
  refine (HS.out _ (HW.out.below HB.out)).mono ?_
  rintro r w1 ⟨hlr, hb⟩
  replace HR := Aside.mk (blk_below HR.out hb)
  replace HB := Aside.mk (HB.out.trans (hb.mono HB.out.size))
  clear hb HS
  unfold LinesRes at hlr
  rw [bs_data, bs_size, HLL.out] at hlr
  rcases hlr with ⟨h1, _⟩ | ⟨_, k, h2, _⟩ | ⟨h1, ls2, v, h2, hO, rfl⟩
  · exact absurd h1 (by have := HSL.out; omega)
  · cases h2
  injection h2 with h2 _
  injection h2 with h2
  subst h2
  rcases hO.form with ⟨h3, _⟩ | ⟨g, c, rfl, hc, _, hT, _⟩
  · cases h3
  obtain ⟨g2, cl, e2, hcb, hcc⟩ := hT (by simp)
  injection e2 with e2
  injection e2 with e2 _ _
  subst e2
  have HT := Aside.mk (show ∃ cl, w1.heap[g]? = some (.cells cl 9 (0, 0)) ∧ ∀ j (hj : j < (l :: ls).length), cl[j]? = some (.string (bs (l :: ls)[j])) from ⟨cl, hcb, hcc⟩)
  have c0 := (blk_cell hcb 0).trans (hcc 0 (by simp))
  have HCC := Aside.mk hc
  clear h1 hc hT hO hcb hcc
  simp only [List.getElem_cons_zero, List.length_cons] at c0 HCC ⊢
  have HC := Aside.mk (conf_ l (HLX.out l (by simp)) w1 (HW.out.below HB.out))
  go_wp2_with fail
  refine HC.out.mono ?_
  rintro r w2 ⟨v, he, hu, hb⟩
  rw [HRC.out] at he
  obtain ⟨Av, cv, rfl, hcv, hus⟩ := upS_of_R hu
  have HUS := Aside.mk hus
  have HCV := Aside.mk hcv
  subst he
  replace HR := Aside.mk (blk_below HR.out hb)
  replace HB := Aside.mk (HB.out.trans (hb.mono HB.out.size))
  replace HT := Aside.mk (by obtain ⟨cl, h1, h2⟩ := HT.out; exact ⟨cl, blk_below h1 hb, h2⟩ : ∃ cl, w2.heap[g]? = some (.cells cl 9 (0, 0)) ∧ ∀ j (hj : j < (l :: ls).length), cl[j]? = some (.string (bs (l :: ls)[j])))
  clear hb c0 hu hus hcv HC
  generalize hcf : valC l = cf at *
  have HCF := Aside.mk hcf
  clear hcf
  replace HR := Aside.mk (blk_alloc HR.out (.cells #[.int .i64 cf.variant, .int .i64 cf.width, .int .i64 cf.cap, .int .i64 cf.prod, .int .u64 ((cf.start : Nat) : Int), .slice Av cf.up.length cv] 46))
  replace HB := Aside.mk (below_alloc HB.out (.cells #[.int .i64 cf.variant, .int .i64 cf.width, .int .i64 cf.cap, .int .i64 cf.prod, .int .u64 ((cf.start : Nat) : Int), .slice Av cf.up.length cv] 46))
  replace HT := Aside.mk (by obtain ⟨cl, h1, h2⟩ := HT.out; exact ⟨cl, blk_alloc h1 _, h2⟩ : ∃ cl, (w2.alloc (.cells #[.int .i64 cf.variant, .int .i64 cf.width, .int .i64 cf.cap, .int .i64 cf.prod, .int .u64 ((cf.start : Nat) : Int), .slice Av cf.up.length cv] 46)).heap[g]? = some (.cells cl 9 (0, 0)) ∧ ∀ j (hj : j < (l :: ls).length), cl[j]? = some (.string (bs (l :: ls)[j])))
  replace HUS := Aside.mk (HUS.out.below (below_alloc (Below.refl w2.heap.size w2) (.cells #[.int .i64 cf.variant, .int .i64 cf.width, .int .i64 cf.cap, .int .i64 cf.prod, .int .u64 ((cf.start : Nat) : Int), .slice Av cf.up.length cv] 46)))
  have H8 := Aside.mk (heap_alloc_new w2 (.cells #[.int .i64 cf.variant, .int .i64 cf.width, .int .i64 cf.cap, .int .i64 cf.prod, .int .u64 ((cf.start : Nat) : Int), .slice Av cf.up.length cv] 46))
  go_upto_region 7 with (fail)
  generalize w2.alloc (.cells #[.int .i64 cf.variant, .int .i64 cf.width, .int .i64 cf.cap, .int .i64 cf.prod, .int .u64 ((cf.start : Nat) : Int), .slice Av cf.up.length cv] 46) = w3 at *
  generalize w2.heap.size = Q8 at *
  obtain ⟨e0, e1, e2, e3, e4, e5⟩ := blk_cell6 H8.out
  have HST := Aside.mk (show SS w (w3.alloc (.cells (cfE cf Av cv (.slice none 0 0)) 67)) w3.heap.size g (l :: ls) cf Av cv (.slice none 0 0) [] from
    ⟨below_alloc HB.out _, blk_alloc HR.out _, heap_alloc_new _ _, Nat.ne_of_lt (blk_lt HR.out), HB.out.size, by obtain ⟨cl, h1, h2⟩ := HT.out; exact ⟨cl, blk_alloc h1 _, h2⟩, HUS.out.below (below_alloc (Below.refl _ _) _), OutA.nil _ _⟩)
  unfold cfE at HST
  go_upto_region 10 with (fail)
  clear HB HR HT HUS H8 e0 e1 e2 e3 e4 e5
  generalize w3.alloc (.cells #[.int .i64 cf.variant, .int .i64 cf.width, .int .i64 cf.cap, .int .i64 cf.prod, .int .u64 ((cf.start : Nat) : Int), .slice Av cf.up.length cv, .slice none 0 0] 67) = w4 at *
  generalize w3.heap.size = E at *
  have q1 : decide (1 ≤ c) = true := decide_eq_true (by have := HCC.out; omega)
  by_cases hc1 : c = 1
  · have HU0 := Aside.mk (show ls.length = 0 by have := HCC.out; omega)
    subst hc1
    go_upto_block 0 with (fail)
    go_wp2_with fail
    go_loopw [11, 12, 48] (fun la fe x wr => ∃ (j : Nat) (st : PS), j ≤ ls.length ∧ runL ps0 (ls.take j) = some st ∧ la = .int .i64 st.last ∧ fe = .bool st.more ∧ x = .int .i64 j ∧ ∃ u, Aside (SS w wr E g (l :: ls) cf Av cv u st.acts)) (fun _ _ x _ => ls.length - (intOf x).toNat)
    case atStart => exact ⟨0, ps0, Nat.zero_le _, rfl, rfl, rfl, rfl, _, HST⟩
    case round =>
      clear HST
      obtain ⟨j, st, hj, hrun, rfl, rfl, rfl, u, HSS⟩ := hrel
      by_cases hlt : j < ls.length
      · exact absurd hlt (by have := HU0.out; omega)
      · obtain rfl : j = ls.length := by omega
        rw [List.take_length] at hrun
        have t1 : decide ((ls.length : Int) < (ls.length : Int)) = false := decide_eq_false (by omega)
        have t2 : decide (ls.length < ls.length) = false := decide_eq_false (by omega)
        obtain ⟨Au, cu, hcu⟩ := HSS.out.ow.slice
        subst hcu
        have HRUN := Aside.mk hrun
        generalize hsn : st.acts.length = sn at *
        clear hrun hj hlt hsn
        obtain ⟨e0, e1, e2, e3, e4, e5, e6⟩ := cell7 HSS.out.e
        have HF := Aside.mk (set7 (w0 := w) (R := w.heap.size) (.int .i64 cf.variant) (.int .i64 cf.width) (.int .i64 cf.cap) (.int .i64 cf.prod) (.int .u64 ((cf.start : Nat) : Int)) (.slice Av cf.up.length cv) (.slice Au sn cu) HSS.out.b (Nat.le_refl _) HSS.out.r)
        have HK7 := Aside.mk (keep7 (w0 := w) (R := w.heap.size) (.int .i64 cf.variant) (.int .i64 cf.width) (.int .i64 cf.cap) (.int .i64 cf.prod) (.int .u64 ((cf.start : Nat) : Int)) (.slice Av cf.up.length cv) (.slice Au sn cu) HSS.out.r)
        obtain ⟨r0, r1, r2, r3, r4, r5, r6⟩ := cell7 HSS.out.r
        have fr0 := blk_froz HSS.out.r 0
        have fr1 := blk_froz HSS.out.r 1
        have fr2 := blk_froz HSS.out.r 2
        have fr3 := blk_froz HSS.out.r 3
        have fr4 := blk_froz HSS.out.r 4
        have fr5 := blk_froz HSS.out.r 5
        have fr6 := blk_froz HSS.out.r 6
        go_wp2
        refine bodyPost_ret (results_ctt rfl _ _ w.heap.size 67 #[.int .i64 cf.variant, .int .i64 cf.width, .int .i64 cf.cap, .int .i64 cf.prod, .int .u64 ((cf.start : Nat) : Int), .slice Av cf.up.length cv, .slice Au sn cu] (0, 0) _ rfl HF.out.1 Tryd.underlying67 rfl (by kernel_rfl)) rfl ?_
        exact .inl ⟨l, ls, st, _, _, HSL.out, HLL.out, HRC.out, HRUN.out, by rw [HCF.out]; rfl, ⟨Av, cv, by rw [HCF.out], by rw [HCF.out]; exact HCV.out, by rw [HCF.out]; exact HK7.out.2 _ _ HSS.out.up⟩, HK7.out.1 _ _ HSS.out.ow, HF.out.2⟩
  · go_upto_block 0 with (fail)
    go_wp2_with fail
    go_loopw [11, 12, 48] (fun la fe x wr => ∃ (j : Nat) (st : PS), j ≤ ls.length ∧ runL ps0 (ls.take j) = some st ∧ la = .int .i64 st.last ∧ fe = .bool st.more ∧ x = .int .i64 j ∧ ∃ u, Aside (SS w wr E g (l :: ls) cf Av cv u st.acts)) (fun _ _ x _ => ls.length - (intOf x).toNat)
    case atStart => exact ⟨0, ps0, Nat.zero_le _, rfl, rfl, rfl, rfl, _, HST⟩
    case round =>
      clear HST
      obtain ⟨j, st, hj, hrun, rfl, rfl, rfl, u, HSS⟩ := hrel
      by_cases hlt : j < ls.length
      · have t1 : decide ((j : Int) < (ls.length : Int)) = true := decide_eq_true (by omega)
        have t2 : decide (j < ls.length) = true := decide_eq_true hlt
        have t3 : (j : Int) < (ls.length : Int) := by omega
        have HLT := Aside.mk hlt
        have HRUN := Aside.mk hrun
        have HFW := Aside.mk (run_few (ls.take j) ps0 st (by decide) hrun)
        have c2 := HSS.out.at (1 + j) (by simp; omega)
        rw [at_tail l ls j hlt (by simp; omega)] at c2
        have c3 := c2
        rw [← add_offS] at c3
        have HXL := Aside.mk (HLX.out ls[j] (by simp))
        have HST1 := Aside.mk (fun s2 => run_next (s2 := s2) hlt hrun)
        have HBAD := Aside.mk (fun (h : stepL st ls[j] = none) => PErr.act (s := s) l ls j hlt st HSL.out HLL.out HRC.out hrun h)
        have ei := i1 (show j < 4611686018427387904 by have := HLN.out; omega)
        have HJ := Aside.mk (show j ≤ 65536 by have := HLN.out; omega)
        have HACT := Aside.mk (act_ ls[j] HXL.out wr (HW.out.below HSS.out.b))
        generalize ls[j] = x at *
        clear hj hlt hrun
        go_wp2_with fail
        refine HACT.out.mono ?_
        rintro r w5 ⟨A2, d2, rfl, hd2, hn2, hb⟩
        have HD2 := Aside.mk hd2
        have HN2 := Aside.mk (hn2.below (below_alloc (Below.refl w5.heap.size w5) (.cells #[.int .i64 (valA x).thread, .int .i64 (valA x).op, .int .i64 (valA x).n, .slice A2 (valA x).data.length d2] 50)))
        have hssb := Aside.mk (HSS.out.step hb)
        replace HSS := Aside.mk ((HSS.out.step hb).step (below_alloc (Below.refl w5.heap.size w5) (.cells #[.int .i64 (valA x).thread, .int .i64 (valA x).op, .int .i64 (valA x).n, .slice A2 (valA x).data.length d2] 50)))
        have HOB := Aside.mk ((hssb).out.ow.lt)
        have HQ := Aside.mk (heap_alloc_new w5 (.cells #[.int .i64 (valA x).thread, .int .i64 (valA x).op, .int .i64 (valA x).n, .slice A2 (valA x).data.length d2] 50))
        clear hb c2 c3 hd2 hn2 HACT hssb
        go_upto_block 2 with (fail)
        generalize w5.alloc (.cells #[.int .i64 (valA x).thread, .int .i64 (valA x).op, .int .i64 (valA x).n, .slice A2 (valA x).data.length d2] 50) = w6 at *
        generalize w5.heap.size = Q at *
        cases hra : resA x with
        | false =>
          have HP := Aside.mk (HBAD.out (by unfold stepL; rw [if_pos hra]))
          have HCODE := Aside.mk (show codeL st x = 20 by unfold codeL; rw [if_pos hra])
          clear hra
          have HF := Aside.mk (set7 (w0 := w) (R := w.heap.size) (.int .i64 0) (.int .i64 0) (.int .i64 0) (.int .i64 0) (.int .u64 0) (.slice none 0 0) (.slice none 0 0) HSS.out.b (Nat.le_refl _) HSS.out.r)
          obtain ⟨r0, r1, r2, r3, r4, r5, r6⟩ := cell7 HSS.out.r
          have fr0 := blk_froz HSS.out.r 0
          have fr1 := blk_froz HSS.out.r 1
          have fr2 := blk_froz HSS.out.r 2
          have fr3 := blk_froz HSS.out.r 3
          have fr4 := blk_froz HSS.out.r 4
          have fr5 := blk_froz HSS.out.r 5
          have fr6 := blk_froz HSS.out.r 6
          go_wp2
          refine bodyPost_ret (results_ctt rfl _ _ w.heap.size 67 #[.int .i64 0, .int .i64 0, .int .i64 0, .int .i64 0, .int .u64 0, .slice none 0 0, .slice none 0 0] (0, 0) _ rfl HF.out.1 Tryd.underlying67 rfl (by kernel_rfl)) rfl ?_
          exact .inr ⟨wrap64 ((j : Int) + 2), _, by rw [w64a HJ.out]; exact HP.out, by rw [HCODE.out]; rfl, HF.out.2⟩
        | true =>
          have HRA := Aside.mk hra
          clear hra
          obtain ⟨k, hk, hk2⟩ := cnt_k (l := x)
          rw [hk]
          obtain ⟨Au, cu, hcu⟩ := HSS.out.ow.slice
          generalize hsn : st.acts.length = sn at *
          have HSN := Aside.mk hsn
          clear hsn
          subst hcu
          obtain ⟨e0, e1, e2, e3, e4, e5, e6⟩ := cell7 HSS.out.e
          have ew := w64s HFW.out
          by_cases hbig : (4096 : Int) - sn < k
          · have HP := Aside.mk (HBAD.out (by unfold stepL; rw [if_neg (by rw [HRA.out]; decide), HSN.out, if_pos (by rw [hk]; exact hbig)]))
            have HCODE := Aside.mk (show codeL st x = 21 by unfold codeL; rw [if_neg (by rw [HRA.out]; decide), HSN.out, if_pos (by rw [hk]; exact hbig)])
            have g1 : decide ((4096 : Int) - sn < k) = true := decide_eq_true hbig
            clear hbig hk hk2
            have HF := Aside.mk (set7 (w0 := w) (R := w.heap.size) (.int .i64 0) (.int .i64 0) (.int .i64 0) (.int .i64 0) (.int .u64 0) (.slice none 0 0) (.slice none 0 0) HSS.out.b (Nat.le_refl _) HSS.out.r)
            obtain ⟨r0, r1, r2, r3, r4, r5, r6⟩ := cell7 HSS.out.r
            have fr0 := blk_froz HSS.out.r 0
            have fr1 := blk_froz HSS.out.r 1
            have fr2 := blk_froz HSS.out.r 2
            have fr3 := blk_froz HSS.out.r 3
            have fr4 := blk_froz HSS.out.r 4
            have fr5 := blk_froz HSS.out.r 5
            have fr6 := blk_froz HSS.out.r 6
            go_wp2
            refine bodyPost_ret (results_ctt rfl _ _ w.heap.size 67 #[.int .i64 0, .int .i64 0, .int .i64 0, .int .i64 0, .int .u64 0, .slice none 0 0, .slice none 0 0] (0, 0) _ rfl HF.out.1 Tryd.underlying67 rfl (by kernel_rfl)) rfl ?_
            exact .inr ⟨wrap64 ((j : Int) + 2), _, by rw [w64a HJ.out]; exact HP.out, by rw [HCODE.out]; rfl, HF.out.2⟩
          · have HBIG := Aside.mk (Int.not_lt.1 hbig)
            have HK := Aside.mk hk
            have HK2 := Aside.mk hk2
            have g1 : decide ((4096 : Int) - sn < k) = false := decide_eq_false hbig
            clear hbig hk hk2
            generalize hvx : valA x = vx at *
            have HVX := Aside.mk hvx
            clear hvx
            obtain ⟨d0, d1, d2', d3, _, _, _, _⟩ := blk_cell4 HQ.out
            have HNX := Aside.mk (fun h3 => HST1.out _ (next_act HRA.out (by rw [HSN.out, HK.out]; exact Int.not_lt.2 HBIG.out) h3))
            rw [HK2.out, HVX.out, HK.out] at HNX
            by_cases hop : vx.op = 0
            · have o1 : (vx.op == 0) = true := by rw [hop]; rfl
              cases hmo : st.more with
              | false =>
                have HNY := Aside.mk (HNX.out (by rw [hmo]; simp))
                rw [show decide (vx.op = 0) = true from decide_eq_true hop] at HNY
                clear HNX hop hmo
                go_upto_block 3 with (fail)
                have HBN := Aside.mk (room2 HBIG.out)
                clear e0 e1 e2 e3 e4 e5 e6 d0 d1 d2' d3 ew g1 HBIG
                generalize ((4096 : Int) - (sn : Int)) = v70 at *
                go_wp2_with fail
                go_loopw [103] (fun n wr => ∃ m : Nat, m ≤ k ∧ n = .int .i64 m ∧ ∃ u, Aside (SS w wr E g (l :: ls) cf Av cv u (st.acts ++ List.replicate m vx)) ∧ Aside (wr.heap[Q]? = some (.cells #[.int .i64 vx.thread, .int .i64 vx.op, .int .i64 vx.n, .slice A2 vx.data.length d2] 50 (0, 0))) ∧ Aside (NumS wr A2 vx.data) ∧ Aside (some Q ≠ u.ownBlock)) (fun n _ => k - (intOf n).toNat)
                case atStart => exact ⟨0, Nat.zero_le _, rfl, _, ⟨by simpa using HSS.out⟩, HQ, HN2, HOB⟩
                case round =>
                  clear HSS HQ HN2 HOB
                  obtain ⟨m, hm, rfl, u, HSS, HQ, HN2, HOB⟩ := hrel
                  by_cases hlt : m < k
                  · have t1 : decide ((m : Int) < (k : Int)) = true := decide_eq_true (by omega)
                    have t2 : decide (m < k) = true := decide_eq_true hlt
                    have HMK := Aside.mk hlt
                    have HRM := Aside.mk (room HBN.out hlt)
                    have em := i1 (show m < 4611686018427387904 by have := HRM.out; omega)
                    obtain ⟨Au, cu, hcu⟩ := HSS.out.ow.slice
                    rw [rep_len, HSN.out] at hcu
                    obtain ⟨n, hn⟩ : ∃ n, sn + m = n := ⟨_, rfl⟩
                    rw [hn] at hcu
                    have HLEN := Aside.mk (show (st.acts ++ List.replicate m vx ++ [vx]).length = n + 1 by rw [List.length_append, rep_len, HSN.out, hn]; rfl)
                    subst hcu
                    obtain ⟨rows, hr1, hr2, hr3⟩ := HSS.out.ow
                    have HR1 := Aside.mk hr1
                    have HR2 := Aside.mk hr2
                    have HR3 := Aside.mk hr3
                    have HRL := Aside.mk (show rows.length ≤ 100000 by rw [hr1, rep_len, HSN.out]; have := HRM.out; omega)
                    clear hr1 hr2 hr3 hm hlt hn
                    obtain ⟨e0, e1, e2, e3, e4, e5, e6⟩ := cell7 HSS.out.e
                    obtain ⟨d0, d1, d2', d3, _, _, _, _⟩ := blk_cell4 HQ.out
                    have fe := blk_froz HSS.out.e 6
                    go_upto_region 25 with ((with_reducible refine gate_builtin (b := .append) (xs := #[.tmp 106, .tmp 108]) rfl ?_); at_builtin; refine Kd.R_append (Kd.raw 4) (w0 := w) w.heap.size rfl (.tmp 106) (.tmp 108) 61 50 (.agg #[.int .i64 0, .int .i64 0, .int .i64 0, .slice none 0 0]) 48 rfl Tryd.underlying61 info50 rfl (by decide) (by omega) (.slice Au n cu) rows (cellsA vx A2 d2) [.int .i64 vx.thread, .int .i64 vx.op, .int .i64 vx.n, .slice A2 vx.data.length d2] (fun _ => True) (fun _ => False) rfl rfl ?aP (fun _ hk => hk.elim) ?aF ?aO ?aB ?aS ?aL ?_; (case aP => exact ⟨rfl, rfl, oneA vx A2 d2⟩); (case aB => exact HSS.out.b); (case aF => exact (fun _ _ => trivial)); (case aO => exact HR2.out); (case aS => exact HSS.out.b.size); (case aL => have := HRL.out; omega); intro vN wN hoN hbN hgN hatN; have HCN := Aside.mk (HSS.out.grown hgN hbN (fun t ht => raw_away HR2.out ht) (OutA.snoc vx A2 d2 HR1.out HR2.out HR3.out hgN HD2.out HN2.out hoN)); have HQN := Aside.mk (blk_grown HQ.out hgN HOB.out); have HNN := Aside.mk (HN2.out.grown hgN (raw_away HR2.out (by decide))); have HON := Aside.mk (own_new HOB.out (blk_lt HQ.out) hatN); clear hoN hbN hgN hatN HSS HQ HN2 HOB; obtain ⟨e0, e1, e2, e3, e4, e5, e6⟩ := cell7 HCN.out.e; have fe := blk_froz HCN.out.e 6; obtain ⟨AvN, cvN, evN⟩ := HCN.out.ow.slice; rw [HLEN.out] at evN; subst evN)
                    have HSP := Aside.mk HCN.out.put
                    rw [rep_snoc] at HSP
                    have HQP := Aside.mk (blk_far HQN.out (p := ⟨E, 6, none⟩) (fun e => blk_ne HQN.out HCN.out.e (by decide) e) (.slice AvN (n + 1) cvN))
                    have HNP := Aside.mk (HNN.out.set HCN.out.e (by decide) 6 (.slice AvN (n + 1) cvN))
                    clear e0 e1 e2 e3 e4 e5 e6 fe HCN HQN HNN d0 d1 d2' d3
                    generalize wN.setCell ⟨E, 6, none⟩ (.slice AvN (n + 1) cvN) = w8 at *
                    go_wp2
                    go_roundw
                    case rel => exact ⟨m + 1, HMK.out, by first | rfl | simp, _, HSP, HQP, HNP, HON⟩
                    case measure =>
                      simp only [intOf, tn3m, Int.toNat_natCast]
                      exact meas1 HMK.out
                  · obtain rfl : m = k := by omega
                    have t1 : decide ((m : Int) < (m : Int)) = false := decide_eq_false (by omega)
                    have t2 : decide (m < m) = false := decide_eq_false (by omega)
                    clear hm hlt
                    go_wp2
                    go_roundw
                    case rel => exact ⟨j + 1, _, HLT.out, HNY.out, by first | rfl | simp, by first | rfl | simp, by first | rfl | simp, _, HSS⟩
                    case measure =>
                      have := HLT.out
                      have e9 : ((j : Int) + 1).toNat = j + 1 := by omega
                      simp only [intOf, e9, Int.toNat_natCast]
                      omega
              | true =>
                by_cases hth : vx.thread = st.last
                · have h1 : (vx.thread == st.last) = true := by rw [hth]; exact beq_self_eq_true _
                  have HP := Aside.mk (HBAD.out (by unfold stepL; rw [if_neg (by rw [HRA.out]; decide), if_neg (by rw [HSN.out, HK.out]; exact Int.not_lt.2 HBIG.out), if_pos ⟨hmo, by rw [HVX.out]; exact hop, by rw [HVX.out]; exact hth⟩]))
                  have HCODE := Aside.mk (show codeL st x = 20 by unfold codeL; rw [if_neg (by rw [HRA.out]; decide), if_neg (by rw [HSN.out, HK.out]; exact Int.not_lt.2 HBIG.out)])
                  clear hop hth hmo HNX
                  have HF := Aside.mk (set7 (w0 := w) (R := w.heap.size) (.int .i64 0) (.int .i64 0) (.int .i64 0) (.int .i64 0) (.int .u64 0) (.slice none 0 0) (.slice none 0 0) HSS.out.b (Nat.le_refl _) HSS.out.r)
                  obtain ⟨r0, r1, r2, r3, r4, r5, r6⟩ := cell7 HSS.out.r
                  have fr0 := blk_froz HSS.out.r 0
                  have fr1 := blk_froz HSS.out.r 1
                  have fr2 := blk_froz HSS.out.r 2
                  have fr3 := blk_froz HSS.out.r 3
                  have fr4 := blk_froz HSS.out.r 4
                  have fr5 := blk_froz HSS.out.r 5
                  have fr6 := blk_froz HSS.out.r 6
                  go_wp2
                  refine bodyPost_ret (results_ctt rfl _ _ w.heap.size 67 #[.int .i64 0, .int .i64 0, .int .i64 0, .int .i64 0, .int .u64 0, .slice none 0 0, .slice none 0 0] (0, 0) _ rfl HF.out.1 Tryd.underlying67 rfl (by kernel_rfl)) rfl ?_
                  exact .inr ⟨wrap64 ((j : Int) + 2), _, by rw [w64a HJ.out]; exact HP.out, by rw [HCODE.out]; rfl, HF.out.2⟩
                · have h1 : (vx.thread == st.last) = false := beq_eq_false_iff_ne.2 hth
                  have HNY := Aside.mk (HNX.out (by rw [hmo]; simp [hth]))
                  rw [show decide (vx.op = 0) = true from decide_eq_true hop] at HNY
                  clear HNX hop hmo hth
                  go_upto_block 3 with (fail)
                  have HBN := Aside.mk (room2 HBIG.out)
                  clear e0 e1 e2 e3 e4 e5 e6 d0 d1 d2' d3 ew g1 HBIG
                  generalize ((4096 : Int) - (sn : Int)) = v70 at *
                  go_wp2_with fail
                  go_loopw [103] (fun n wr => ∃ m : Nat, m ≤ k ∧ n = .int .i64 m ∧ ∃ u, Aside (SS w wr E g (l :: ls) cf Av cv u (st.acts ++ List.replicate m vx)) ∧ Aside (wr.heap[Q]? = some (.cells #[.int .i64 vx.thread, .int .i64 vx.op, .int .i64 vx.n, .slice A2 vx.data.length d2] 50 (0, 0))) ∧ Aside (NumS wr A2 vx.data) ∧ Aside (some Q ≠ u.ownBlock)) (fun n _ => k - (intOf n).toNat)
                  case atStart => exact ⟨0, Nat.zero_le _, rfl, _, ⟨by simpa using HSS.out⟩, HQ, HN2, HOB⟩
                  case round =>
                    clear HSS HQ HN2 HOB
                    obtain ⟨m, hm, rfl, u, HSS, HQ, HN2, HOB⟩ := hrel
                    by_cases hlt : m < k
                    · have t1 : decide ((m : Int) < (k : Int)) = true := decide_eq_true (by omega)
                      have t2 : decide (m < k) = true := decide_eq_true hlt
                      have HMK := Aside.mk hlt
                      have HRM := Aside.mk (room HBN.out hlt)
                      have em := i1 (show m < 4611686018427387904 by have := HRM.out; omega)
                      obtain ⟨Au, cu, hcu⟩ := HSS.out.ow.slice
                      rw [rep_len, HSN.out] at hcu
                      obtain ⟨n, hn⟩ : ∃ n, sn + m = n := ⟨_, rfl⟩
                      rw [hn] at hcu
                      have HLEN := Aside.mk (show (st.acts ++ List.replicate m vx ++ [vx]).length = n + 1 by rw [List.length_append, rep_len, HSN.out, hn]; rfl)
                      subst hcu
                      obtain ⟨rows, hr1, hr2, hr3⟩ := HSS.out.ow
                      have HR1 := Aside.mk hr1
                      have HR2 := Aside.mk hr2
                      have HR3 := Aside.mk hr3
                      have HRL := Aside.mk (show rows.length ≤ 100000 by rw [hr1, rep_len, HSN.out]; have := HRM.out; omega)
                      clear hr1 hr2 hr3 hm hlt hn
                      obtain ⟨e0, e1, e2, e3, e4, e5, e6⟩ := cell7 HSS.out.e
                      obtain ⟨d0, d1, d2', d3, _, _, _, _⟩ := blk_cell4 HQ.out
                      have fe := blk_froz HSS.out.e 6
                      go_upto_region 25 with ((with_reducible refine gate_builtin (b := .append) (xs := #[.tmp 106, .tmp 108]) rfl ?_); at_builtin; refine Kd.R_append (Kd.raw 4) (w0 := w) w.heap.size rfl (.tmp 106) (.tmp 108) 61 50 (.agg #[.int .i64 0, .int .i64 0, .int .i64 0, .slice none 0 0]) 48 rfl Tryd.underlying61 info50 rfl (by decide) (by omega) (.slice Au n cu) rows (cellsA vx A2 d2) [.int .i64 vx.thread, .int .i64 vx.op, .int .i64 vx.n, .slice A2 vx.data.length d2] (fun _ => True) (fun _ => False) rfl rfl ?aP (fun _ hk => hk.elim) ?aF ?aO ?aB ?aS ?aL ?_; (case aP => exact ⟨rfl, rfl, oneA vx A2 d2⟩); (case aB => exact HSS.out.b); (case aF => exact (fun _ _ => trivial)); (case aO => exact HR2.out); (case aS => exact HSS.out.b.size); (case aL => have := HRL.out; omega); intro vN wN hoN hbN hgN hatN; have HCN := Aside.mk (HSS.out.grown hgN hbN (fun t ht => raw_away HR2.out ht) (OutA.snoc vx A2 d2 HR1.out HR2.out HR3.out hgN HD2.out HN2.out hoN)); have HQN := Aside.mk (blk_grown HQ.out hgN HOB.out); have HNN := Aside.mk (HN2.out.grown hgN (raw_away HR2.out (by decide))); have HON := Aside.mk (own_new HOB.out (blk_lt HQ.out) hatN); clear hoN hbN hgN hatN HSS HQ HN2 HOB; obtain ⟨e0, e1, e2, e3, e4, e5, e6⟩ := cell7 HCN.out.e; have fe := blk_froz HCN.out.e 6; obtain ⟨AvN, cvN, evN⟩ := HCN.out.ow.slice; rw [HLEN.out] at evN; subst evN)
                      have HSP := Aside.mk HCN.out.put
                      rw [rep_snoc] at HSP
                      have HQP := Aside.mk (blk_far HQN.out (p := ⟨E, 6, none⟩) (fun e => blk_ne HQN.out HCN.out.e (by decide) e) (.slice AvN (n + 1) cvN))
                      have HNP := Aside.mk (HNN.out.set HCN.out.e (by decide) 6 (.slice AvN (n + 1) cvN))
                      clear e0 e1 e2 e3 e4 e5 e6 fe HCN HQN HNN d0 d1 d2' d3
                      generalize wN.setCell ⟨E, 6, none⟩ (.slice AvN (n + 1) cvN) = w8 at *
                      go_wp2
                      go_roundw
                      case rel => exact ⟨m + 1, HMK.out, by first | rfl | simp, _, HSP, HQP, HNP, HON⟩
                      case measure =>
                        simp only [intOf, tn3m, Int.toNat_natCast]
                        exact meas1 HMK.out
                    · obtain rfl : m = k := by omega
                      have t1 : decide ((m : Int) < (m : Int)) = false := decide_eq_false (by omega)
                      have t2 : decide (m < m) = false := decide_eq_false (by omega)
                      clear hm hlt
                      go_wp2
                      go_roundw
                      case rel => exact ⟨j + 1, _, HLT.out, HNY.out, by first | rfl | simp, by first | rfl | simp, by first | rfl | simp, _, HSS⟩
                      case measure =>
                        have := HLT.out
                        have e9 : ((j : Int) + 1).toNat = j + 1 := by omega
                        simp only [intOf, e9, Int.toNat_natCast]
                        omega
            · have o1 : (vx.op == 0) = false := beq_eq_false_iff_ne.2 hop
              have HNY := Aside.mk (HNX.out (by simp [hop]))
              rw [show decide (vx.op = 0) = false from decide_eq_false hop] at HNY
              cases hmo : st.more with
              | false =>
                clear HNX hop hmo
                go_upto_block 3 with (fail)
                have HBN := Aside.mk (room2 HBIG.out)
                clear e0 e1 e2 e3 e4 e5 e6 d0 d1 d2' d3 ew g1 HBIG
                generalize ((4096 : Int) - (sn : Int)) = v70 at *
                go_wp2_with fail
                go_loopw [103] (fun n wr => ∃ m : Nat, m ≤ k ∧ n = .int .i64 m ∧ ∃ u, Aside (SS w wr E g (l :: ls) cf Av cv u (st.acts ++ List.replicate m vx)) ∧ Aside (wr.heap[Q]? = some (.cells #[.int .i64 vx.thread, .int .i64 vx.op, .int .i64 vx.n, .slice A2 vx.data.length d2] 50 (0, 0))) ∧ Aside (NumS wr A2 vx.data) ∧ Aside (some Q ≠ u.ownBlock)) (fun n _ => k - (intOf n).toNat)
                case atStart => exact ⟨0, Nat.zero_le _, rfl, _, ⟨by simpa using HSS.out⟩, HQ, HN2, HOB⟩
                case round =>
                  clear HSS HQ HN2 HOB
                  obtain ⟨m, hm, rfl, u, HSS, HQ, HN2, HOB⟩ := hrel
                  by_cases hlt : m < k
                  · have t1 : decide ((m : Int) < (k : Int)) = true := decide_eq_true (by omega)
                    have t2 : decide (m < k) = true := decide_eq_true hlt
                    have HMK := Aside.mk hlt
                    have HRM := Aside.mk (room HBN.out hlt)
                    have em := i1 (show m < 4611686018427387904 by have := HRM.out; omega)
                    obtain ⟨Au, cu, hcu⟩ := HSS.out.ow.slice
                    rw [rep_len, HSN.out] at hcu
                    obtain ⟨n, hn⟩ : ∃ n, sn + m = n := ⟨_, rfl⟩
                    rw [hn] at hcu
                    have HLEN := Aside.mk (show (st.acts ++ List.replicate m vx ++ [vx]).length = n + 1 by rw [List.length_append, rep_len, HSN.out, hn]; rfl)
                    subst hcu
                    obtain ⟨rows, hr1, hr2, hr3⟩ := HSS.out.ow
                    have HR1 := Aside.mk hr1
                    have HR2 := Aside.mk hr2
                    have HR3 := Aside.mk hr3
                    have HRL := Aside.mk (show rows.length ≤ 100000 by rw [hr1, rep_len, HSN.out]; have := HRM.out; omega)
                    clear hr1 hr2 hr3 hm hlt hn
                    obtain ⟨e0, e1, e2, e3, e4, e5, e6⟩ := cell7 HSS.out.e
                    obtain ⟨d0, d1, d2', d3, _, _, _, _⟩ := blk_cell4 HQ.out
                    have fe := blk_froz HSS.out.e 6
                    go_upto_region 25 with ((with_reducible refine gate_builtin (b := .append) (xs := #[.tmp 106, .tmp 108]) rfl ?_); at_builtin; refine Kd.R_append (Kd.raw 4) (w0 := w) w.heap.size rfl (.tmp 106) (.tmp 108) 61 50 (.agg #[.int .i64 0, .int .i64 0, .int .i64 0, .slice none 0 0]) 48 rfl Tryd.underlying61 info50 rfl (by decide) (by omega) (.slice Au n cu) rows (cellsA vx A2 d2) [.int .i64 vx.thread, .int .i64 vx.op, .int .i64 vx.n, .slice A2 vx.data.length d2] (fun _ => True) (fun _ => False) rfl rfl ?aP (fun _ hk => hk.elim) ?aF ?aO ?aB ?aS ?aL ?_; (case aP => exact ⟨rfl, rfl, oneA vx A2 d2⟩); (case aB => exact HSS.out.b); (case aF => exact (fun _ _ => trivial)); (case aO => exact HR2.out); (case aS => exact HSS.out.b.size); (case aL => have := HRL.out; omega); intro vN wN hoN hbN hgN hatN; have HCN := Aside.mk (HSS.out.grown hgN hbN (fun t ht => raw_away HR2.out ht) (OutA.snoc vx A2 d2 HR1.out HR2.out HR3.out hgN HD2.out HN2.out hoN)); have HQN := Aside.mk (blk_grown HQ.out hgN HOB.out); have HNN := Aside.mk (HN2.out.grown hgN (raw_away HR2.out (by decide))); have HON := Aside.mk (own_new HOB.out (blk_lt HQ.out) hatN); clear hoN hbN hgN hatN HSS HQ HN2 HOB; obtain ⟨e0, e1, e2, e3, e4, e5, e6⟩ := cell7 HCN.out.e; have fe := blk_froz HCN.out.e 6; obtain ⟨AvN, cvN, evN⟩ := HCN.out.ow.slice; rw [HLEN.out] at evN; subst evN)
                    have HSP := Aside.mk HCN.out.put
                    rw [rep_snoc] at HSP
                    have HQP := Aside.mk (blk_far HQN.out (p := ⟨E, 6, none⟩) (fun e => blk_ne HQN.out HCN.out.e (by decide) e) (.slice AvN (n + 1) cvN))
                    have HNP := Aside.mk (HNN.out.set HCN.out.e (by decide) 6 (.slice AvN (n + 1) cvN))
                    clear e0 e1 e2 e3 e4 e5 e6 fe HCN HQN HNN d0 d1 d2' d3
                    generalize wN.setCell ⟨E, 6, none⟩ (.slice AvN (n + 1) cvN) = w8 at *
                    go_wp2
                    go_roundw
                    case rel => exact ⟨m + 1, HMK.out, by first | rfl | simp, _, HSP, HQP, HNP, HON⟩
                    case measure =>
                      simp only [intOf, tn3m, Int.toNat_natCast]
                      exact meas1 HMK.out
                  · obtain rfl : m = k := by omega
                    have t1 : decide ((m : Int) < (m : Int)) = false := decide_eq_false (by omega)
                    have t2 : decide (m < m) = false := decide_eq_false (by omega)
                    clear hm hlt
                    go_wp2
                    go_roundw
                    case rel => exact ⟨j + 1, _, HLT.out, HNY.out, by first | rfl | simp, by first | rfl | simp, by first | rfl | simp, _, HSS⟩
                    case measure =>
                      have := HLT.out
                      have e9 : ((j : Int) + 1).toNat = j + 1 := by omega
                      simp only [intOf, e9, Int.toNat_natCast]
                      omega
              | true =>
                clear HNX hop hmo
                go_upto_block 3 with (fail)
                have HBN := Aside.mk (room2 HBIG.out)
                clear e0 e1 e2 e3 e4 e5 e6 d0 d1 d2' d3 ew g1 HBIG
                generalize ((4096 : Int) - (sn : Int)) = v70 at *
                go_wp2_with fail
                go_loopw [103] (fun n wr => ∃ m : Nat, m ≤ k ∧ n = .int .i64 m ∧ ∃ u, Aside (SS w wr E g (l :: ls) cf Av cv u (st.acts ++ List.replicate m vx)) ∧ Aside (wr.heap[Q]? = some (.cells #[.int .i64 vx.thread, .int .i64 vx.op, .int .i64 vx.n, .slice A2 vx.data.length d2] 50 (0, 0))) ∧ Aside (NumS wr A2 vx.data) ∧ Aside (some Q ≠ u.ownBlock)) (fun n _ => k - (intOf n).toNat)
                case atStart => exact ⟨0, Nat.zero_le _, rfl, _, ⟨by simpa using HSS.out⟩, HQ, HN2, HOB⟩
                case round =>
                  clear HSS HQ HN2 HOB
                  obtain ⟨m, hm, rfl, u, HSS, HQ, HN2, HOB⟩ := hrel
                  by_cases hlt : m < k
                  · have t1 : decide ((m : Int) < (k : Int)) = true := decide_eq_true (by omega)
                    have t2 : decide (m < k) = true := decide_eq_true hlt
                    have HMK := Aside.mk hlt
                    have HRM := Aside.mk (room HBN.out hlt)
                    have em := i1 (show m < 4611686018427387904 by have := HRM.out; omega)
                    obtain ⟨Au, cu, hcu⟩ := HSS.out.ow.slice
                    rw [rep_len, HSN.out] at hcu
                    obtain ⟨n, hn⟩ : ∃ n, sn + m = n := ⟨_, rfl⟩
                    rw [hn] at hcu
                    have HLEN := Aside.mk (show (st.acts ++ List.replicate m vx ++ [vx]).length = n + 1 by rw [List.length_append, rep_len, HSN.out, hn]; rfl)
                    subst hcu
                    obtain ⟨rows, hr1, hr2, hr3⟩ := HSS.out.ow
                    have HR1 := Aside.mk hr1
                    have HR2 := Aside.mk hr2
                    have HR3 := Aside.mk hr3
                    have HRL := Aside.mk (show rows.length ≤ 100000 by rw [hr1, rep_len, HSN.out]; have := HRM.out; omega)
                    clear hr1 hr2 hr3 hm hlt hn
                    obtain ⟨e0, e1, e2, e3, e4, e5, e6⟩ := cell7 HSS.out.e
                    obtain ⟨d0, d1, d2', d3, _, _, _, _⟩ := blk_cell4 HQ.out
                    have fe := blk_froz HSS.out.e 6
                    go_upto_region 25 with ((with_reducible refine gate_builtin (b := .append) (xs := #[.tmp 106, .tmp 108]) rfl ?_); at_builtin; refine Kd.R_append (Kd.raw 4) (w0 := w) w.heap.size rfl (.tmp 106) (.tmp 108) 61 50 (.agg #[.int .i64 0, .int .i64 0, .int .i64 0, .slice none 0 0]) 48 rfl Tryd.underlying61 info50 rfl (by decide) (by omega) (.slice Au n cu) rows (cellsA vx A2 d2) [.int .i64 vx.thread, .int .i64 vx.op, .int .i64 vx.n, .slice A2 vx.data.length d2] (fun _ => True) (fun _ => False) rfl rfl ?aP (fun _ hk => hk.elim) ?aF ?aO ?aB ?aS ?aL ?_; (case aP => exact ⟨rfl, rfl, oneA vx A2 d2⟩); (case aB => exact HSS.out.b); (case aF => exact (fun _ _ => trivial)); (case aO => exact HR2.out); (case aS => exact HSS.out.b.size); (case aL => have := HRL.out; omega); intro vN wN hoN hbN hgN hatN; have HCN := Aside.mk (HSS.out.grown hgN hbN (fun t ht => raw_away HR2.out ht) (OutA.snoc vx A2 d2 HR1.out HR2.out HR3.out hgN HD2.out HN2.out hoN)); have HQN := Aside.mk (blk_grown HQ.out hgN HOB.out); have HNN := Aside.mk (HN2.out.grown hgN (raw_away HR2.out (by decide))); have HON := Aside.mk (own_new HOB.out (blk_lt HQ.out) hatN); clear hoN hbN hgN hatN HSS HQ HN2 HOB; obtain ⟨e0, e1, e2, e3, e4, e5, e6⟩ := cell7 HCN.out.e; have fe := blk_froz HCN.out.e 6; obtain ⟨AvN, cvN, evN⟩ := HCN.out.ow.slice; rw [HLEN.out] at evN; subst evN)
                    have HSP := Aside.mk HCN.out.put
                    rw [rep_snoc] at HSP
                    have HQP := Aside.mk (blk_far HQN.out (p := ⟨E, 6, none⟩) (fun e => blk_ne HQN.out HCN.out.e (by decide) e) (.slice AvN (n + 1) cvN))
                    have HNP := Aside.mk (HNN.out.set HCN.out.e (by decide) 6 (.slice AvN (n + 1) cvN))
                    clear e0 e1 e2 e3 e4 e5 e6 fe HCN HQN HNN d0 d1 d2' d3
                    generalize wN.setCell ⟨E, 6, none⟩ (.slice AvN (n + 1) cvN) = w8 at *
                    go_wp2
                    go_roundw
                    case rel => exact ⟨m + 1, HMK.out, by first | rfl | simp, _, HSP, HQP, HNP, HON⟩
                    case measure =>
                      simp only [intOf, tn3m, Int.toNat_natCast]
                      exact meas1 HMK.out
                  · obtain rfl : m = k := by omega
                    have t1 : decide ((m : Int) < (m : Int)) = false := decide_eq_false (by omega)
                    have t2 : decide (m < m) = false := decide_eq_false (by omega)
                    clear hm hlt
                    go_wp2
                    go_roundw
                    case rel => exact ⟨j + 1, _, HLT.out, HNY.out, by first | rfl | simp, by first | rfl | simp, by first | rfl | simp, _, HSS⟩
                    case measure =>
                      have := HLT.out
                      have e9 : ((j : Int) + 1).toNat = j + 1 := by omega
                      simp only [intOf, e9, Int.toNat_natCast]
                      omega
      · obtain rfl : j = ls.length := by omega
        rw [List.take_length] at hrun
        have t1 : decide ((ls.length : Int) < (ls.length : Int)) = false := decide_eq_false (by omega)
        have t2 : decide (ls.length < ls.length) = false := decide_eq_false (by omega)
        obtain ⟨Au, cu, hcu⟩ := HSS.out.ow.slice
        subst hcu
        have HRUN := Aside.mk hrun
        generalize hsn : st.acts.length = sn at *
        clear hrun hj hlt hsn
        obtain ⟨e0, e1, e2, e3, e4, e5, e6⟩ := cell7 HSS.out.e
        have HF := Aside.mk (set7 (w0 := w) (R := w.heap.size) (.int .i64 cf.variant) (.int .i64 cf.width) (.int .i64 cf.cap) (.int .i64 cf.prod) (.int .u64 ((cf.start : Nat) : Int)) (.slice Av cf.up.length cv) (.slice Au sn cu) HSS.out.b (Nat.le_refl _) HSS.out.r)
        have HK7 := Aside.mk (keep7 (w0 := w) (R := w.heap.size) (.int .i64 cf.variant) (.int .i64 cf.width) (.int .i64 cf.cap) (.int .i64 cf.prod) (.int .u64 ((cf.start : Nat) : Int)) (.slice Av cf.up.length cv) (.slice Au sn cu) HSS.out.r)
        obtain ⟨r0, r1, r2, r3, r4, r5, r6⟩ := cell7 HSS.out.r
        have fr0 := blk_froz HSS.out.r 0
        have fr1 := blk_froz HSS.out.r 1
        have fr2 := blk_froz HSS.out.r 2
        have fr3 := blk_froz HSS.out.r 3
        have fr4 := blk_froz HSS.out.r 4
        have fr5 := blk_froz HSS.out.r 5
        have fr6 := blk_froz HSS.out.r 6
        go_wp2
        refine bodyPost_ret (results_ctt rfl _ _ w.heap.size 67 #[.int .i64 cf.variant, .int .i64 cf.width, .int .i64 cf.cap, .int .i64 cf.prod, .int .u64 ((cf.start : Nat) : Int), .slice Av cf.up.length cv, .slice Au sn cu] (0, 0) _ rfl HF.out.1 Tryd.underlying67 rfl (by kernel_rfl)) rfl ?_
        exact .inl ⟨l, ls, st, _, _, HSL.out, HLL.out, HRC.out, HRUN.out, by rw [HCF.out]; rfl, ⟨Av, cv, by rw [HCF.out], by rw [HCF.out]; exact HCV.out, by rw [HCF.out]; exact HK7.out.2 _ _ HSS.out.up⟩, HK7.out.1 _ _ HSS.out.ow, HF.out.2⟩
end Go.Proofs.YtabcdcnnamflfaaDoor.Wd
