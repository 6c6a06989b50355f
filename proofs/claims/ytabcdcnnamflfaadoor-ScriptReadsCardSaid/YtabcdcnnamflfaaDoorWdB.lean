/- The document's Lines, and lists of texts that are the same, walked. -/
import Derived.Test.YtabcdcnnamflfaaDoorWdA
set_option linter.unusedVariables false
set_option linter.unusedSimpArgs false
set_option maxRecDepth 100000
namespace Go.Proofs.YtabcdcnnamflfaaDoor.Wd
open Go.RowKit Go.Proofs.YtabcdcnnamflfaaDoorW.PrintWords Go.Proofs.YtabcdcnnamflfaaDoorW.PrintLast Go.Proofs.YtabcdcnnamflfaaDoorW.PrintMore
/-- What Lines answers. -/
def LinesRes (base : Nat) (s : ByteArray) (e : Ending) (w' : World) : Prop :=
  (65536 < s.size ∧ e = .returned (.tuple #[.slice none 0 0, .int .i64 0, .int .i64 21])) ∨
  (s.size ≤ 65536 ∧ ∃ k : Nat, linesOf s.data.toList = (none, k) ∧ e = .returned (.tuple #[.slice none 0 0, .int .i64 k, .int .i64 20])) ∨
  (s.size ≤ 65536 ∧ ∃ ls v, linesOf s.data.toList = (some ls, 0) ∧ Own w' base v ls ∧ e = .returned (.tuple #[v, .int .i64 0, .int .i64 0]))
theorem sp_piece (l : List UInt8) (k : Nat) (h : l[k]? = some 10) (hn : (10 : UInt8) ∉ l.take k) : sp 10 l = l.take k :: sp 10 (l.drop (k + 1)) := by
  obtain ⟨hk, e⟩ := List.getElem?_eq_some_iff.1 h
  have : l = l.take k ++ 10 :: l.drop (k + 1) := by
    rw [← e, ← List.drop_eq_getElem_cons hk, List.take_append_drop]
  have h2 := sp_front (l.take k) (l.drop (k + 1)) hn
  rw [← this] at h2; exact h2
set_option maxHeartbeats 4000000 in
theorem lines_ (s : ByteArray) (hs : s.size ≤ 1000000) (w : World) : Calls Tryd.prog 14 #[.string s] w fun e w' => LinesRes w.heap.size s e w' ∧ Below w.heap.size w w' := by
  by_cases hbig : 65536 < s.size
  · have t1 : decide ((65536 : Int) < (s.size : Int)) = true := decide_eq_true (by omega)
    have t2 : decide (65536 < s.size) = true := decide_eq_true hbig
    have HB := Aside.mk hbig
    clear hbig
    go_enter Tryd.func14, Tryd.ntmps14
    go_wp2
    go_ret3
    exact ⟨.inl ⟨HB.out, rfl⟩, Below.refl _ _⟩
  have t1 : decide ((65536 : Int) < (s.size : Int)) = false := decide_eq_false (by omega)
  have t2 : decide (65536 < s.size) = false := decide_eq_false hbig
  have HSM := Aside.mk (show s.size ≤ 65536 by omega)
  have HB0 := Aside.mk (Below.refl w.heap.size w)
  clear hbig
  go_enter Tryd.func14, Tryd.ntmps14
  go_wp2_with fail
  clear t1 t2
  go_loopw [5, 6, 7] (fun v y x wr => ∃ (i fr : Nat) (out : List (List UInt8)), i ≤ s.size ∧ fr ≤ i ∧ x = .int .i64 i ∧ y = .int .i64 fr ∧ Aside (sp 10 s.data.toList = out ++ sp 10 (s.data.toList.drop fr) ∧ (10 : UInt8) ∉ (s.data.toList.drop fr).take (i - fr) ∧ (∀ l ∈ out, lineB l = true) ∧ out.length ≤ fr) ∧ Aside (Own wr w.heap.size v out) ∧ Aside (Below w.heap.size w wr)) (fun _ _ x _ => s.size - (intOf x).toNat)
  case atStart => exact ⟨0, 0, [], Nat.zero_le _, Nat.zero_le _, rfl, rfl, ⟨rfl, by simp, fun l h => by simp at h, Nat.le_refl _⟩, ⟨Kd.R_nil _ _ _ _ _⟩, HB0⟩
  case round =>
    clear HB0
    obtain ⟨i, fr, out, hi, hfi, rfl, rfl, HS, HO, HB⟩ := hrel
    have HFI := Aside.mk hfi
    have HLIM := Aside.mk (show out.length ≤ 1000000 by have := HS.out.2.2.2; omega)
    have hvo : ∃ A c, u5 = Value.slice A out.length c := by
      obtain ⟨A, c, rfl, _⟩ := Kd.R_reads HO.out
      exact ⟨A, c, by simp⟩
    by_cases hlt : i < s.size
    · have t1 : decide ((i : Int) < (s.size : Int)) = true := decide_eq_true (by omega)
      have t2 : decide (i < s.size) = true := decide_eq_true hlt
      have t3 : (i : Int) < (s.size : Int) := by omega
      have HI := Aside.mk hlt
      have ei := i1 (show i < 4611686018427387904 by omega)
      by_cases h10 : (s[i]'hlt).toNat = 10
      · have he : s[i]'hlt = 10 := UInt8.toNat_inj.1 h10
        have q1 : (((s[i]'hlt).toNat : Int) != 10) = false := by rw [bne_eq_false_iff_eq]; omega
        have q2 : ((s[i]'hlt).toNat != 10) = false := by rw [bne_eq_false_iff_eq]; omega
        have hpc := sp_piece (s.data.toList.drop fr) (i - fr) (by
          rw [List.getElem?_drop, show fr + (i - fr) = i by omega, Lib.data_getElem? s i hlt, he]) HS.out.2.1
        rw [List.drop_drop, show fr + (i - fr + 1) = i + 1 by omega] at hpc
        have hsl : ∀ W : World, _ := slice_txt s fr i hfi (by omega) (A := (fr : Int)) (B := (i : Int)) rfl rfl
        have hpl : ((s.data.toList.drop fr).take (i - fr)).length ≤ 1000000 := by simp only [List.length_take]; omega
        obtain ⟨p, hp⟩ : ∃ p, (s.data.toList.drop fr).take (i - fr) = p := ⟨_, rfl⟩
        rw [hp] at hpc hsl hpl
        have HL := Aside.mk (fun w => line_ (bs p) (by rw [bs_size]; exact hpl) w)
        rw [bs_data] at HL
        have HPC := Aside.mk (show sp 10 s.data.toList = out ++ p :: sp 10 (s.data.toList.drop (i + 1)) by rw [HS.out.1, hpc])
        clear he h10 hpc hpl hp hi hfi
        obtain ⟨A0, c0, rfl⟩ := hvo
        cases hb : lineB p with
        | true =>
          rw [hb] at HL
          have HB2 := Aside.mk hb
          clear hb
          go_wp2_with (first | (go_at_call 16; refine (HL.out _).mono ?_; rintro e w' ⟨rfl, rfl⟩) | ((with_reducible refine gate_builtin (b := .append) (xs := #[.tmp 30, .tmp 35]) rfl ?_); at_builtin; refine Kd.R_append Kd.string (w0 := w) w.heap.size rfl (.tmp 30) (.tmp 35) 23 9 (.string ByteArray.empty) 16 rfl Tryd.underlying23 info9 rfl (by decide) (by omega) (.slice A0 out.length c0) (out.map bs) (bs p) [.string (bs p)] (fun _ => True) (fun _ => False) rfl rfl ?aP (fun _ hk => hk.elim) ?aF ?aO ?aB ?aS ?aL ?_; (case aP => exact rfl); (case aB => exact HB.out); (case aF => exact (fun _ _ => trivial)); (case aO => exact HO.out); (case aS => exact HB.out.size); (case aL => have := HLIM.out; simp; omega); intro vN wN hoN hbN hgN hatN; have HON := Aside.mk hoN; have HBN := Aside.mk hbN; have HGN := Aside.mk hgN; clear hoN hbN hgN hatN))
          go_roundw
          case rel => exact ⟨i + 1, i + 1, out ++ [p], HI.out, Nat.le_refl _, by first | rfl | simp, by first | rfl | simp, ⟨by rw [HPC.out]; simp, by simp, fun l hl => by
            rcases List.mem_append.1 hl with h | h
            · exact HS.out.2.2.1 l h
            · rw [List.mem_singleton] at h; subst h; exact HB2.out, by have := HS.out.2.2.2; have := HFI.out; simp; omega⟩, ⟨by unfold Own; rw [List.map_append]; exact HON.out⟩, HBN⟩
          case measure =>
            have := HI.out
            have e9 : ((i : Int) + 1).toNat = i + 1 := by omega
            simp only [intOf, e9, Int.toNat_natCast]
            omega
        | false =>
          rw [hb] at HL
          have HLN := Aside.mk (lines_bad HS.out.2.2.1 hb (sp_ne 10 _) HPC.out)
          have eo := i1 (show out.length < 4611686018427387904 by have := HLIM.out; omega)
          clear hb
          go_wp2_with (go_at_call 16; refine (HL.out _).mono ?_; rintro e w' ⟨rfl, rfl⟩)
          go_ret3
          exact ⟨.inr (.inl ⟨HSM.out, _, HLN.out, rfl⟩), HB.out⟩
      · have hne : s[i]'hlt ≠ 10 := fun e => h10 (by rw [e]; rfl)
        have q1 : (((s[i]'hlt).toNat : Int) != 10) = true := by rw [bne_iff_ne]; omega
        have q2 : ((s[i]'hlt).toNat != 10) = true := by rw [bne_iff_ne]; omega
        have HN := Aside.mk (show (10 : UInt8) ∉ (s.data.toList.drop fr).take (i + 1 - fr) by
          have e : (s.data.toList.drop fr).take (i + 1 - fr) = (s.data.toList.drop fr).take (i - fr) ++ [s[i]'hlt] := by
            rw [show i + 1 - fr = (i - fr) + 1 by omega, List.take_succ_eq_append_getElem (by simp only [List.length_drop, Array.length_toList]; have h3 : s.size = s.data.size := rfl; omega)]
            congr 1
            simp only [List.getElem_drop, show fr + (i - fr) = i by omega, byte_at s i hlt]
          rw [e]
          intro hm
          rcases List.mem_append.1 hm with h | h
          · exact HS.out.2.1 h
          · rw [List.mem_singleton] at h; exact hne h.symm)
        clear h10 hne hi hfi hvo
        go_wp2
        go_roundw
        case rel => exact ⟨i + 1, fr, out, HI.out, by have := HFI.out; omega, by first | rfl | simp, rfl, ⟨HS.out.1, HN.out, HS.out.2.2⟩, HO, HB⟩
        case measure =>
          have := HI.out
          have e9 : ((i : Int) + 1).toNat = i + 1 := by omega
          simp only [intOf, e9, Int.toNat_natCast]
          omega
    · have t1 : decide ((i : Int) < (s.size : Int)) = false := decide_eq_false (by omega)
      have t2 : decide (i < s.size) = false := decide_eq_false hlt
      obtain rfl : i = s.size := by omega
      have hn : (10 : UInt8) ∉ s.data.toList.drop fr := by
        have := HS.out.2.1
        rwa [List.take_of_length_le (by simp only [List.length_drop, Array.length_toList]; exact Nat.le_refl _)] at this
      have HSP := Aside.mk (show sp 10 s.data.toList = out ++ [s.data.toList.drop fr] by rw [HS.out.1, sp_none _ hn])
      clear hn hlt hi
      obtain ⟨A0, c0, rfl⟩ := hvo
      by_cases hf : fr < s.size
      · have q1 : decide ((fr : Int) < (s.size : Int)) = true := decide_eq_true (by omega)
        have q2 : decide (fr < s.size) = true := decide_eq_true hf
        have HLN := Aside.mk (lines_rest HS.out.2.2.1 (fun e => by
          have := congrArg List.length e
          simp only [List.length_drop, Array.length_toList, List.length_nil] at this
          have h3 : s.size = s.data.size := rfl; omega) HSP.out)
        have eo := i1 (show out.length < 4611686018427387904 by have := HLIM.out; omega)
        clear hf hfi
        go_wp2
        go_ret3
        exact ⟨.inr (.inl ⟨HSM.out, _, HLN.out, rfl⟩), HB.out⟩
      · have q1 : decide ((fr : Int) < (s.size : Int)) = false := decide_eq_false (by omega)
        have q2 : decide (fr < s.size) = false := decide_eq_false hf
        have HLN := Aside.mk (lines_end HS.out.2.2.1 (by rw [HSP.out, List.drop_eq_nil_of_le (by rw [Array.length_toList]; have h3 : s.size = s.data.size := rfl; omega)]))
        clear hf hfi
        go_wp2
        go_ret3
        exact ⟨.inr (.inr ⟨HSM.out, _, _, HLN.out, HO.out, rfl⟩), HB.out⟩
end Go.Proofs.YtabcdcnnamflfaaDoor.Wd
