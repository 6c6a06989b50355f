/- The program's words: lists shown and read, lines cut. Asked: the library's variables lie as laid. -/
import Derived.Test.YtabcdcnnamflfaaDoorWdC
set_option linter.unusedVariables false
set_option linter.unusedSimpArgs false
set_option maxRecDepth 100000
namespace Go.Proofs.YtabcdcnnamflfaaDoor.Wd
open Go.RowKit Go.Proofs.YtabcdcnnamflfaaDoorW.PrintWords Go.Proofs.YtabcdcnnamflfaaDoorW.PrintLast Go.Proofs.YtabcdcnnamflfaaDoorW.PrintMore
theorem mapM_snoc {α β : Type} (f : α → Option β) : ∀ (xs : List α) (x : α), (xs ++ [x]).mapM f = (xs.mapM f).bind fun l => (f x).map fun y => l ++ [y]
  | [], x => by
    rw [List.nil_append, List.mapM_cons]
    cases h : f x <;> simp
  | a :: xs, x => by
    rw [List.cons_append, List.mapM_cons, List.mapM_cons, mapM_snoc f xs x]
    cases h : f a with
    | none => rfl
    | some y =>
      cases h2 : xs.mapM f with
      | none => rfl
      | some l =>
        cases h3 : f x with
        | none => simp [h3]
        | some z => simp [h3]
theorem mapM_bad {α β : Type} (f : α → Option β) : ∀ (xs : List α) (x : α), x ∈ xs → f x = none → xs.mapM f = none
  | [], x, h, _ => by simp at h
  | a :: xs, x, h, hf => by
    rw [List.mapM_cons]
    rcases List.mem_cons.1 h with rfl | h
    · rw [hf]; rfl
    · cases h2 : f a with
      | none => rfl
      | some y => rw [mapM_bad f xs x h hf]; rfl
/-- What List answers. -/
def ListRes (base : Nat) (s : List UInt8) (e : Ending) (w' : World) : Prop :=
  (listOf s = none ∧ e = .returned (.tuple #[.slice none 0 0, .bool false])) ∨ (∃ l v, listOf s = some l ∧ l.length ≤ s.length + 1 ∧ Kd.R (Kd.int .i64) 3 w' base (fun _ => True) v l ∧ e = .returned (.tuple #[v, .bool true]))
theorem str_dot (s : ByteArray) : (s.toList == [46]) = decide (s.data.toList = [46]) := by
  rw [Lib.toList_data]
  by_cases h : s.data.toList = [46]
  · rw [h]; rfl
  · rw [decide_eq_false h]; simpa using h
set_option maxHeartbeats 4000000 in
theorem list_w (s : ByteArray) (hs : s.size ≤ 1000000) (w : World) (hw : LibW w) :
    Calls Tryd.prog 20 #[.string s] w fun e w' => ListRes w.heap.size s.data.toList e w' ∧ Below w.heap.size w w' := by
  by_cases hd : s.data.toList = [46]
  · have q1 : (s.toList == [46]) = true := by rw [str_dot, decide_eq_true hd]
    have HL := Aside.mk (show listOf s.data.toList = some [] by unfold listOf; rw [if_pos hd])
    clear hd hw
    go_enter Tryd.func20, Tryd.ntmps20
    go_wp2
    go_ret2
    exact ⟨.inr ⟨[], _, HL.out, Nat.zero_le _, Kd.R_nil _ _ _ _ _, rfl⟩, Below.refl _ _⟩
  · have q1 : (s.toList == [46]) = false := by rw [str_dot, decide_eq_false hd]
    have HLO := Aside.mk (show listOf s.data.toList = (sp 44 s.data.toList).mapM numOf by unfold listOf; rw [if_neg hd])
    have HW := Aside.mk hw
    have H := Aside.mk (splitC s 44 hs w hw)
    have HSZ := Aside.mk (fun x (hx : x ∈ sp 44 s.data.toList) => (show x.length ≤ 1000000 by have := sp_size 44 s.data.toList x hx; have h3 : s.data.toList.length = s.size := Array.length_toList; omega))
    have HCT := Aside.mk (show (sp 44 s.data.toList).length ≤ 1000001 by have := sp_count 44 s.data.toList; have h3 : s.data.toList.length = s.size := Array.length_toList; omega)
    have HC2 := Aside.mk (sp_count 44 s.data.toList)
    clear hd hw
    go_enter Tryd.func20, Tryd.ntmps20
    go_wp2_with (go_at_call 48; refine H.out.mono ?_; rintro e w2 ⟨ad, rfl, ht, hb⟩; have HT := Aside.mk ht; have HB0 := Aside.mk hb; clear ht hb)
    generalize sp 44 s.data.toList = ws at *
    go_loopw [4, 14] (fun v x wr => ∃ (i : Nat) (l : List Int), i ≤ ws.length ∧ x = .int .i64 i ∧ Aside ((ws.take i).mapM numOf = some l ∧ l.length = i) ∧ Aside (Kd.R (Kd.int .i64) 3 wr w.heap.size (fun _ => True) v l) ∧ Aside (Txts wr (some ad) ws) ∧ Aside (Below w.heap.size w wr)) (fun _ x _ => ws.length - (intOf x).toNat)
    case atStart => exact ⟨0, [], Nat.zero_le _, rfl, ⟨rfl, rfl⟩, ⟨Kd.R_nil _ _ _ _ _⟩, HT, HB0⟩
    case round =>
      clear HT HB0
      obtain ⟨i, l, hi, rfl, HM, HO, HT, HB⟩ := hrel
      by_cases hlt : i < ws.length
      · have t1 : decide ((i : Int) < (ws.length : Int)) = true := decide_eq_true (by omega)
        have t2 : decide (i < ws.length) = true := decide_eq_true hlt
        have t3 : (i : Int) < (ws.length : Int) := by omega
        have HI := Aside.mk hlt
        have hix : i < 1000001 := by have := HCT.out; omega
        have ei := i1 (show i < 4611686018427387904 by omega)
        obtain ⟨ad2, e2, hx⟩ := HT.out.at i hlt
        injection e2 with e2
        subst e2
        have hmem := List.getElem_mem hlt
        have hN := num_w (bs ws[i]) (by rw [bs_size]; exact HSZ.out _ hmem) wr (HW.out.below HB.out)
        rw [bs_data] at hN
        have HSN := Aside.mk (show (ws.take (i + 1)).mapM numOf = ((ws.take i).mapM numOf).bind fun l => (numOf ws[i]).map fun y => l ++ [y] by rw [List.take_succ_eq_append_getElem hlt, mapM_snoc])
        have HBAD := Aside.mk (fun (hn : numOf ws[i] = none) => mapM_bad numOf ws ws[i] hmem hn)
        have HLIM := Aside.mk (show l.length ≤ 1000001 by have := HM.out.2; omega)
        generalize ws[i] = x at *
        have HN := Aside.mk hN
        clear hN hmem hi hlt hix
        cases hv : numOf x with
        | some v =>
          rw [hv] at HN HSN
          rw [HM.out.1] at HSN
          have HS2 := Aside.mk (show (ws.take (i + 1)).mapM numOf = some (l ++ [v]) from HSN.out)
          clear hv HBAD HSN
          go_wp2_with (first | (go_at_call 18; refine HN.out.mono ?_; rintro e w3 ⟨rfl, hb⟩; have HB3 := Aside.mk (HB.out.trans (hb.mono HB.out.size)); have HO3 := Aside.mk (Kd.R_below HO.out hb); have HT3 := Aside.mk (HT.out.below hb); clear hb) | ((with_reducible refine gate_builtin (b := .append) (xs := #[.tmp 25, .tmp 27]) rfl ?_); at_builtin; refine Kd.R_append (Kd.int .i64) (w0 := w) w.heap.size rfl (.tmp 25) (.tmp 27) 37 3 (.int .i64 0) 8 rfl Tryd.underlying37 info3 rfl (by decide) (by omega) u4 l v [.int .i64 v] (fun _ => True) (fun _ => False) rfl rfl ?aP (fun _ hk => hk.elim) ?aF ?aO ?aB ?aS ?aL ?_; (case aP => exact rfl); (case aB => exact HB3.out); (case aF => exact (fun _ _ => trivial)); (case aO => exact HO3.out); (case aS => exact HB3.out.size); (case aL => have := HLIM.out; omega); intro vN wN hoN hbN hgN hatN; have HON := Aside.mk hoN; have HBN := Aside.mk hbN; have HGN := Aside.mk hgN; clear hoN hbN hgN hatN))
          go_roundw
          case rel => exact ⟨i + 1, l ++ [v], HI.out, by first | rfl | simp, ⟨HS2.out, by rw [List.length_append, HM.out.2]; rfl⟩, HON, ⟨HT3.out.grown HGN.out fun g cl hb => Kd.R_ne HO3.out hb (by decide)⟩, HBN⟩
          case measure =>
            have := HI.out
            have e9 : ((i : Int) + 1).toNat = i + 1 := by omega
            simp only [intOf, e9, Int.toNat_natCast]
            omega
        | none =>
          rw [hv] at HN
          have HNO := Aside.mk (HBAD.out hv)
          clear hv HBAD HSN
          go_wp2_with (go_at_call 18; refine HN.out.mono ?_; rintro e w3 ⟨rfl, hb⟩; have HB3 := Aside.mk (HB.out.trans (hb.mono HB.out.size)); clear hb)
          go_ret2
          exact ⟨.inl ⟨by rw [HLO.out, HNO.out], rfl⟩, HB3.out⟩
      · have t1 : decide ((i : Int) < (ws.length : Int)) = false := decide_eq_false (by omega)
        have t2 : decide (i < ws.length) = false := decide_eq_false hlt
        obtain rfl : i = ws.length := by omega
        have HM2 := Aside.mk (show ws.mapM numOf = some l by have := HM.out.1; rwa [List.take_length] at this)
        have HLL := Aside.mk (show l.length ≤ s.data.toList.length + 1 by have := HM.out.2; have := HC2.out; omega)
        clear hlt hi
        go_wp2
        go_ret2
        exact ⟨.inr ⟨l, _, by rw [HLO.out, HM2.out], HLL.out, HO.out, rfl⟩, HB.out⟩
end Go.Proofs.YtabcdcnnamflfaaDoor.Wd
