/- The program's text of events: walked. Asked: the library's variables lie as laid. -/
import Derived.Test.YtabcdcnnamflfaaDoorTlB
set_option linter.unusedVariables false
set_option linter.unusedSimpArgs false
set_option maxRecDepth 100000
namespace Go.Proofs.YtabcdcnnamflfaaDoor.Wd
open Go.RowKit Go.Proofs.YtabcdcnnamflfaaDoorW.PrintWords Go.Proofs.YtabcdcnnamflfaaDoorW.PrintLast Go.Proofs.YtabcdcnnamflfaaDoorW.PrintMore
open QTe (EvOk In64 S76 k76 at_T76 rd_T76)
def evOf (x : S76) : Ev := ⟨x.f0, x.f1, x.f2, x.f3, x.f4, x.f5, x.f6⟩
/-- Events that came in, and are few. -/
structure Evs (w : World) (A : Option Addr) (c : Nat) (xs : List S76) : Prop where
  rd : Kd.C k76 w A xs.length xs
  cap : xs.length ≤ c
  ok : ∀ x ∈ xs, EvOk (evOf x)
structure Few (xs : List S76) (n : Nat) : Prop where
  n : xs.length ≤ n
  d : ∀ x ∈ xs, x.f6.length ≤ 100
theorem Evs.below {w w' : World} {A : Option Addr} {c : Nat} {xs : List S76} (h : Evs w A c xs) (b : Below w.heap.size w w') : Evs w' A c xs := ⟨Kd.C_below h.rd b, h.cap, h.ok⟩
theorem Evs.at {w : World} {A : Option Addr} {c : Nat} {xs : List S76} (h : Evs w A c xs) (i : Nat) (hi : i < xs.length) : ∃ ad A6 c6, A = some ad ∧ w.cell? (ad.add (i * 7)) = some (.int .i64 xs[i].f0) ∧ w.cell? ⟨(ad.add (i * 7)).block, (ad.add (i * 7)).off + 1, none⟩ = some (.int .i64 xs[i].f1) ∧ w.cell? ⟨(ad.add (i * 7)).block, (ad.add (i * 7)).off + 2, none⟩ = some (.int .i64 xs[i].f2) ∧ w.cell? ⟨(ad.add (i * 7)).block, (ad.add (i * 7)).off + 3, none⟩ = some (.int .i64 xs[i].f3) ∧ w.cell? ⟨(ad.add (i * 7)).block, (ad.add (i * 7)).off + 4, none⟩ = some (.int .u64 xs[i].f4) ∧ w.cell? ⟨(ad.add (i * 7)).block, (ad.add (i * 7)).off + 5, none⟩ = some (.int .i64 xs[i].f5) ∧ w.cell? ⟨(ad.add (i * 7)).block, (ad.add (i * 7)).off + 6, none⟩ = some (.slice A6 xs[i].f6.length c6) ∧ Rv w A6 c6 xs[i].f6 := by
  obtain ⟨ad, A6, c6, e, h0, h1, h2, h3, h4, h5, h6, h7, h8⟩ := at_T76 h.rd (i : Int) (by omega) (by omega)
  have er : rd_T76 xs (i : Int) = xs[i] := by unfold rd_T76; rw [Int.toNat_natCast, List.getD_eq_getElem?_getD, List.getElem?_eq_getElem hi]; rfl
  simp only [er, Int.toNat_natCast] at h0 h1 h2 h3 h4 h5 h6 h7 h8
  exact ⟨ad, A6, c6, e, h0, h1, h2, h3, h4, h5, h6, h8, h7, (h.ok _ (List.getElem_mem hi)).d⟩
def lines (xs : List S76) : List (List UInt8) := xs.map fun x => lineE (evOf x)
def clean (xs : List S76) : Bool := xs.all fun x => cleanB (evOf x)
def txtE (xs : List S76) : List UInt8 := if clean xs = true then textOf (lines xs) else []
theorem lineE_len {e : Ev} (h : EvOk e) (hl : e.data.length ≤ 100) : (lineE e).length ≤ 20000 := by
  unfold lineE
  split
  · have l1 := itoa_len e.thread h.t.1 h.t.2
    have l2 := itoa_len e.n h.n.1 h.n.2
    have l3 := itoa_len e.code h.c.1 h.c.2
    have l4 := QTe.opX_len h.o
    have l5 := dec_len e.pos.toNat (by have := h.p; omega)
    have l6 := QTe.listTxt_len ⟨h.d, show e.data.length ≤ 100000 by omega⟩
    have l7 := QTe.kindT_len e.kind
    have h1 := join_len 2300 (wds e) 32 (by
      intro x hx
      unfold wds at hx
      simp only [List.mem_append, List.mem_cons, List.not_mem_nil, or_false] at hx
      rcases hx with (rfl | rfl) | hx
      · omega
      · omega
      · repeat' (split at hx)
        all_goals simp only [List.mem_cons, List.not_mem_nil, or_false] at hx
        · rcases hx with rfl | rfl | rfl <;> omega
        · rcases hx with rfl | rfl | rfl | rfl | rfl <;> omega
        · rcases hx with rfl | rfl <;> omega
        · rcases hx with rfl | rfl | rfl <;> omega
        · subst hx; omega)
    have h2 : (wds e).length ≤ 7 := by
      unfold wds
      repeat' split
      all_goals simp
    have h3 : (2300 + 1) * (wds e).length ≤ 2301 * 7 := Nat.mul_le_mul_left _ h2
    omega
  · simp
theorem textOf_len {xs : List S76} {n : Nat} (hk : ∀ x ∈ xs, EvOk (evOf x)) (h : Few xs n) : ∀ i, (textOf (lines (xs.take i))).length ≤ 20001 * i := by
  intro i
  induction i with
  | zero => simp [lines, textOf]
  | succ i ih =>
    by_cases hi : i < xs.length
    · rw [List.take_succ_eq_append_getElem hi]
      unfold lines at *
      rw [List.map_append, List.map_cons, List.map_nil, textOf_snoc, List.length_append, List.length_append]
      have := lineE_len (hk _ (List.getElem_mem hi)) (h.d _ (List.getElem_mem hi))
      simp only [List.length_cons, List.length_nil]
      omega
    · rw [List.take_of_length_le (by omega)]
      rw [List.take_of_length_le (by omega)] at ih
      omega
set_option maxHeartbeats 4000000 in
theorem text_ (w : World) (A : Option Addr) (c : Nat) (xs : List S76) (h : Evs w A c xs) (hf : Few xs 100) (hw : LibW w) :
    Calls Tryd.prog 45 #[.slice A xs.length c] w fun e w' => e = .returned (.tuple #[.string (bs (txtE xs)), .bool (clean xs)]) ∧ Below w.heap.size w w' := by
  have HX := Aside.mk h
  have HF := Aside.mk hf
  have HW := Aside.mk hw
  have HI0 := Aside.mk (builder_new w.heap.size w (Nat.le_refl _))
  have HB0 := Aside.mk (below_alloc (Below.refl w.heap.size w) (.cells #[.pointer none, .slice none 0 0] 104))
  have HU := Tryd.underlying76
  clear h hf hw
  go_enter Tryd.func45, Tryd.ntmps45
  go_wp2_with fail
  generalize hB : w.alloc (Obj.cells #[Value.pointer none, Value.slice none 0 0] 104) = w1 at *
  clear hB
  go_loopw [10] (fun x wr => ∃ i : Nat, i ≤ xs.length ∧ x = .int .i64 i ∧ Aside (clean (xs.take i) = true ∧ Lib.IsBuilderF 104 5 w.heap.size w.heap.size (Lib.byteCells (textOf (lines (xs.take i)))) wr) ∧ Aside (Below w.heap.size w wr)) (fun x _ => xs.length - (intOf x).toNat)
  case atStart => exact ⟨0, Nat.zero_le _, rfl, ⟨rfl, HI0.out⟩, HB0⟩
  case round =>
    clear HI0 HB0
    obtain ⟨i, hi, rfl, HI, HB⟩ := hrel
    by_cases hlt : i < xs.length
    · have t1 : decide ((i : Int) < (xs.length : Int)) = true := decide_eq_true (by omega)
      have t2 : decide (i < xs.length) = true := decide_eq_true hlt
      have t3 : (i : Int) < (xs.length : Int) := by omega
      have HLT := Aside.mk hlt
      have HIL := Aside.mk hi
      have ei := i1 (show i < 4611686018427387904 by have := HF.out.n; omega)
      obtain ⟨ad, A6, c6, rfl, d0, d1, d2, d3, d4, d5, d6, hv⟩ := (HX.out.below HB.out).at i hlt
      have HV := Aside.mk hv
      have HOK := Aside.mk (HX.out.ok _ (List.getElem_mem hlt))
      have HDL := Aside.mk (HF.out.d _ (List.getElem_mem hlt))
      have HTK := Aside.mk (List.take_succ_eq_append_getElem hlt)
      have HLN := Aside.mk (lineE_len HOK.out HDL.out)
      have HTL := Aside.mk (textOf_len HX.out.ok HF.out i)
      have HN := Aside.mk (lineE_nil (evOf xs[i]))
      have HEX := Aside.mk (show cleanB (evOf xs[i]) = false → clean xs = false from fun e => by
        unfold clean; rw [List.all_eq_false]; exact ⟨_, List.getElem_mem hlt, by rw [e]; decide⟩)
      generalize xs[i] = x at *
      clear hv hi hlt
      go_wp2_with fail
      have HB2 := Aside.mk (below_alloc HB.out (.cells #[.int .i64 x.f0, .int .i64 x.f1, .int .i64 x.f2, .int .i64 x.f3, .int .u64 x.f4, .int .i64 x.f5, .slice A6 x.f6.length c6] 76))
      have HBA := Aside.mk (below_alloc (Below.refl wr.heap.size wr) (.cells #[.int .i64 x.f0, .int .i64 x.f1, .int .i64 x.f2, .int .i64 x.f3, .int .u64 x.f4, .int .i64 x.f5, .slice A6 x.f6.length c6] 76))
      refine (line_e (evOf x) A6 c6 _ (HV.out.below HBA.out) HOK.out (by have := HDL.out; show x.f6.length ≤ 100000; omega) (HW.out.below HB2.out)).mono ?_
      rintro e w3 ⟨rfl, hb⟩
      have HBC := Aside.mk (HBA.out.trans (hb.mono HBA.out.size))
      have HB3 := Aside.mk (HB2.out.trans (hb.mono HB2.out.size))
      have HI3 := Aside.mk (isBuilder_below HI.out.2 HBC.out)
      clear hb d0 d1 d2 d3 d4 d5 d6
      cases hc : cleanB (evOf x) with
      | false =>
        have q1 : (bs (lineE (evOf x))).toList.isEmpty = true := by rw [bs_toList, lineE_none hc]; rfl
        have HCF := Aside.mk (HEX.out hc)
        clear hc
        go_wp2
        go_ret2
        exact ⟨by unfold txtE; rw [HCF.out]; rfl, HB3.out⟩
      | true =>
        have q1 : (bs (lineE (evOf x))).toList.isEmpty = false := by
          rw [bs_toList]
          cases hL : lineE (evOf x) with
          | nil => exact absurd hL (lineE_clean hc).2.2.2.1
          | cons a l => rfl
        have HCN := Aside.mk (show clean (xs.take (i + 1)) = true ∧ lines (xs.take (i + 1)) = lines (xs.take i) ++ [lineE (evOf x)] from by
          rw [HTK.out]
          unfold clean lines
          rw [List.all_append, List.map_append]
          refine ⟨?_, rfl⟩
          have := HI.out.1
          unfold clean at this
          rw [this]
          simp [hc])
        have hcat : ¬ 9223372036854775807 < (bs (lineE (evOf x))).size + (⟨#[10]⟩ : ByteArray).size := by
          rw [bs_size]; have := HLN.out; show ¬ _ < _ + 1; omega
        have HWS := Aside.mk (writeS_ w.heap.size w.heap.size (textOf (lines (xs.take i))) (lineE (evOf x) ++ [10]) w3 HI3.out (by have := HLN.out; have := HTL.out; have := HF.out.n; have := HLT.out; simp; omega) HB3.out.size)
        rw [← bs_append] at HWS
        clear hc
        go_wp2_with (go_at_call 69; refine HWS.out.mono ?_; rintro e w4 ⟨n4, rfl, hI4, hb4⟩; have HI4 := Aside.mk hI4; have HB4 := Aside.mk (HB3.out.trans hb4); clear hI4 hb4)
        go_roundw
        case rel => exact ⟨i + 1, HLT.out, by first | rfl | simp, ⟨HCN.out.1, by rw [HCN.out.2, textOf_snoc]; exact HI4.out⟩, HB4⟩
        case measure =>
          have := HLT.out
          have e9 : ((i : Int) + 1).toNat = i + 1 := by omega
          simp only [intOf, e9, Int.toNat_natCast]
          omega
    · have t1 : decide ((i : Int) < (xs.length : Int)) = false := decide_eq_false (by omega)
      have t2 : decide (i < xs.length) = false := decide_eq_false hlt
      have HE := Aside.mk (show clean xs = true ∧ Lib.IsBuilderF 104 5 w.heap.size w.heap.size (Lib.byteCells (textOf (lines xs))) wr from by
        have := HI.out
        rwa [List.take_of_length_le (by omega)] at this)
      clear hi hlt HI
      go_wp2_with (go_at_call 70; refine (bString_ _ _ _ _ HE.out.2 HB.out.size).mono ?_; rintro e w4 ⟨rfl, hb4⟩; have HB4 := Aside.mk (HB.out.trans hb4); clear hb4)
      go_ret2
      exact ⟨by unfold txtE; rw [HE.out.1]; rfl, HB4.out⟩
end Go.Proofs.YtabcdcnnamflfaaDoor.Wd
