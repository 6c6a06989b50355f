/- A builder of texts that the call itself made: what is written into it, and its text. -/
import Derived.Test.YtabcdcnnamflfaaDoorTlShelf
import Derived.Test.YtabcdcnnamflfaaDoorTlA
set_option linter.unusedVariables false
set_option linter.unusedSimpArgs false
set_option maxRecDepth 100000
namespace Go.Proofs.YtabcdcnnamflfaaDoor.Wd
open Go.RowKit Go.Proofs.YtabcdcnnamflfaaDoorW.PrintWords Go.Proofs.YtabcdcnnamflfaaDoorW.PrintLast Go.Proofs.YtabcdcnnamflfaaDoorW.PrintMore
theorem builder_below {T e : TypeId} {B b : Nat} {p : Value} {bs : List Value} {w w' : World} (h : Lib.BuilderAtF T e B b p bs w) (k : Below w.heap.size w w') : Lib.BuilderAtF T e B b p bs w' := by
  obtain ⟨hB, v, hb, ⟨h1, h2⟩, hne⟩ := h
  refine ⟨hB, v, blk_below hb k, ⟨h1, ?_⟩, hne⟩
  rcases h2 with h2 | ⟨g, cap, cur, fz, e1, e2, e3, r⟩
  · exact .inl h2
  · exact .inr ⟨g, cap, cur, fz, e1, e2, blk_below e3 k, r⟩
theorem isBuilder_below {T e : TypeId} {B b : Nat} {bs : List Value} {w w' : World} (h : Lib.IsBuilderF T e B b bs w) (k : Below w.heap.size w w') : Lib.IsBuilderF T e B b bs w' :=
  h.elim (fun h => .inl (builder_below h k)) (fun h => .inr (builder_below h k))
/-- A builder that was just made. -/
theorem builder_new (B : Nat) (w : World) (h : B ≤ w.heap.size) : Lib.IsBuilderF 104 5 B w.heap.size (Lib.byteCells []) (w.alloc (.cells #[.pointer none, .slice none 0 0] 104)) :=
  .inl ⟨h, .slice none 0 0, heap_alloc_new _ _, ⟨rfl, .inl ⟨rfl, rfl⟩⟩, by simp [Value.ownBlock]⟩
theorem noEscape (x : Value) (w : World) : (callFunc 107 #[x]).run Tryd.prog w = .ok (.value x) w := by
  rw [run_callFunc_extern (Tryd.func107) (by kernel_rfl) (by kernel_rfl) (by kernel_rfl) (e := Extern.AbiNoEscape.same) (by kernel_rfl)]
  rfl
set_option maxHeartbeats 2000000 in
theorem copyCheck_ (B b : Nat) (bs : List Value) (w : World) (h : Lib.IsBuilderF 104 5 B b bs w) :
    Calls Tryd.prog 89 #[.pointer (some ⟨b, 0, none⟩)] w fun e w' => e = .returned (.tuple #[]) ∧ (Lib.BuilderAtF 104 5 B b (.pointer (some ⟨b, 0, none⟩)) bs w' ∧ Below B w w') := by
  obtain ⟨j, hj, hjs⟩ := Option.map_eq_some_iff.1 Tryd.Builder_Extra_169.sizeBuilder
  have hj : Tryd.prog.info? 104 = some j := hj
  rcases h with h | h
  · have h0 := h.cell0
    have hsh := h.shape
    have hfz := h.frozen0
    have HU := Aside.mk (h.used (.pointer (some ⟨b, 0, none⟩)))
    have HB := Aside.mk ((Below.refl B w).setCell (p := ⟨b, 0, none⟩) h.1 (.pointer (some ⟨b, 0, none⟩)))
    have HJ := Aside.mk hj
    have HJS := Aside.mk hjs
    have HSH := Aside.mk hsh
    clear h hj hjs hsh
    go_enter Tryd.func89, Tryd.ntmps89
    go_wp2
    rw [Lib.run_to_unsafe w ⟨b, 0, none⟩ Tryd.underlying101 Tryd.underlying138 HJ.out (by rw [HJS.out]; decide) HSH.out (Nat.zero_lt_succ 1)]
    simp only [Result.andThen]
    rw [Oper.upon_value]
    go_wp2
    rw [noEscape]
    rw [Oper.upon_value]
    go_wp2
    rw [Lib.run_from_unsafe w ⟨b, 0, none⟩ Tryd.underlying138 Tryd.underlying101 HJ.out HSH.out Tryd.Builder_Extra_169.liesBuilder]
    simp only [Result.andThen]
    rw [Oper.upon_value]
    go_wp2
    go_end0
    exact ⟨rfl, HU.out, HB.out⟩
  · have h0 := h.cell0
    have HH := Aside.mk h
    clear h
    go_enter Tryd.func89, Tryd.ntmps89
    go_wp2
    rw [Lib.run_neq_ptr_same _ _ Tryd.underlying101 hj]
    go_wp2
    go_end0
    exact ⟨rfl, HH.out, Below.refl _ _⟩
theorem info5 : (Tryd.prog.info? 5).map (fun i => (i.zero, i.size, i.bytes)) = some (some (.int .u8 0), 1, 1) := by kernel_rfl
set_option maxHeartbeats 2000000 in
theorem writeS_ (B b : Nat) (l : List UInt8) (s : List UInt8) (w : World) (h : Lib.IsBuilderF 104 5 B b (Lib.byteCells l) w) (hlen : l.length + s.length ≤ 140737488355328) (hBw : B ≤ w.heap.size) :
    Calls Tryd.prog 69 #[.pointer (some ⟨b, 0, none⟩), .string (bs s)] w fun e w' => ∃ n, e = .returned (.tuple #[.int .i64 n, .nilIface]) ∧ Lib.IsBuilderF 104 5 B b (Lib.byteCells (l ++ s)) w' ∧ Below B w w' := by
  obtain ⟨i0, hi, hz0, hz1, hz2⟩ := info_parts info5
  have HC := Aside.mk (copyCheck_ B b _ w h)
  have HI := Aside.mk (And.intro hi (And.intro hz0 (And.intro hz1 hz2)))
  have HL := Aside.mk hlen
  have HW := Aside.mk hBw
  clear h hi hz0 hz1 hz2 hlen hBw
  go_enter Tryd.func69, Tryd.ntmps69
  go_wp2_with (go_at_call 89; refine HC.out.mono ?_)
  rintro e w1 ⟨rfl, h1, hb1⟩
  obtain ⟨hB, v, hbk, hown, hne⟩ := h1
  have c1 : w1.cell? ⟨b, 1, none⟩ = some v := by rw [Lib.cell_of_heap hbk]; rfl
  have HO := Aside.mk hown
  have HBK := Aside.mk hbk
  have HNE := Aside.mk hne
  have HB1 := Aside.mk hb1
  have HBB := Aside.mk hB
  clear hown hbk hne hb1 hB
  go_wp2_with (at_builtin; refine Lib.wpList_append_own_stringF _ rfl _ _ 102 9 rfl B 5 i0 Tryd.underlying102 Tryd.underlying9 HI.out.1 HI.out.2.1 HI.out.2.2.1 HI.out.2.2.2 _ _ _ rfl HO.out (bs s) rfl ?c3 ?c4 ?c5 ?_)
  case c3 => unfold maxLen; have := HL.out; rw [bs_size, Lib.byteCells_length]; omega
  case c4 => have := HL.out; rw [bs_size, Lib.byteCells_length]; omega
  case c5 => have := HB1.out.size; have := HW.out; omega
  intro v' w2 hown' hgrow _
  have hlt : b < w1.heap.size := blk_lt HBK.out
  have hb2 : w2.heap[b]? = some (.cells #[.pointer (some ⟨b, 0, none⟩), v] 104 (0, 0)) := by
    rw [hgrow.block b hlt (fun e => HNE.out e.symm)]
    exact HBK.out
  have d1 : w2.cell? ⟨b, 1, none⟩ = some v := by rw [Lib.cell_of_heap hb2]; rfl
  have f1 : w2.frozen? ⟨b, 1, none⟩ = false := Lib.frozen_of_heap hb2 1
  have HF := Aside.mk (show Lib.IsBuilderF 104 5 B b (Lib.byteCells (l ++ s)) (w2.setCell ⟨b, 1, none⟩ v') from .inr (by
    refine Lib.BuilderAtF.put (T := 104) (e := 5) HBB.out hb2 (bs' := Lib.byteCells (l ++ s)) ?_ (by decide)
    have e2 : Lib.byteCells (l ++ s) = Lib.byteCells l ++ Lib.strCells (bs s) := by simp [Lib.byteCells, Lib.strCells, bs]
    rw [e2]
    simpa [Lib.strCells_length] using hown'))
  have HB2 := Aside.mk (show Below B w (w2.setCell ⟨b, 1, none⟩ v') from (HB1.out.grown hgrow (by have := HB1.out.size; have := HW.out; omega) (fun k hk => (HO.out.lt k hk).1)).setCell (p := ⟨b, 1, none⟩) HBB.out _)
  obtain ⟨ao, n', cap, rfl⟩ : ∃ ao n' cap, v' = .slice ao n' cap := by
    rcases hown'.2 with ⟨hv, _⟩ | ⟨g, cap, cur, fz, hv, _⟩
    · exact ⟨_, _, _, hv⟩
    · exact ⟨_, _, _, hv⟩
  clear hown' hgrow hlt hb2
  go_wp2
  go_ret2
  exact ⟨_, rfl, HF.out, HB2.out⟩
theorem bString_ (B b : Nat) (l : List UInt8) (w : World) (h : Lib.IsBuilderF 104 5 B b (Lib.byteCells l) w) (hBw : B ≤ w.heap.size) :
    Calls Tryd.prog 70 #[.pointer (some ⟨b, 0, none⟩)] w fun e w' => e = .returned (.string (bs l)) ∧ Below B w w' :=
  (Tryd.Builder_String_any_k B b l w h hBw).mono fun e w' ⟨he, _, hb, _⟩ => ⟨he, hb⟩
end Go.Proofs.YtabcdcnnamflfaaDoor.Wd
