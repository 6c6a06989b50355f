/- The program's Split and Lines, and the document's example. Asked: the library's variables lie as laid. -/
import Derived.Test.YtabcdcnnamflfaaDoorWdE
set_option linter.unusedVariables false
set_option linter.unusedSimpArgs false
set_option maxRecDepth 100000
namespace Go.Proofs.YtabcdcnnamflfaaDoor.Wd
open Go.RowKit Go.Proofs.YtabcdcnnamflfaaDoorW.PrintWords Go.Proofs.YtabcdcnnamflfaaDoorW.PrintLast Go.Proofs.YtabcdcnnamflfaaDoorW.PrintMore
/-- What Split answers. -/
def SplitRes (s : List UInt8) (e : Ending) (w' : World) : Prop :=
  (65536 < s.length ∧ e = .returned (.tuple #[.slice none 0 0, .int .i64 21])) ∨ (s.length ≤ 65536 ∧ lineB s = false ∧ e = .returned (.tuple #[.slice none 0 0, .int .i64 20])) ∨
  (s.length ≤ 65536 ∧ lineB s = true ∧ ∃ A c, e = .returned (.tuple #[.slice A (wordsOf s).length c, .int .i64 0]) ∧ (wordsOf s).length ≤ c ∧ Txts w' A (wordsOf s))
theorem str_nil (s : ByteArray) : s.toList.isEmpty = decide (s.data.toList = []) := by
  rw [Lib.toList_data]; cases s.data.toList <;> rfl
theorem size_len (s : ByteArray) : s.data.toList.length = s.size := Array.length_toList
set_option maxHeartbeats 4000000 in
theorem split_w (s : ByteArray) (hs : s.size ≤ 1000000) (w : World) (hw : LibW w) :
    Calls Tryd.prog 12 #[.string s] w fun e w' => SplitRes s.data.toList e w' ∧ Below w.heap.size w w' := by
  by_cases hbig : 65536 < s.size
  · have t1 : decide ((65536 : Int) < (s.size : Int)) = true := decide_eq_true (by omega)
    have t2 : decide (65536 < s.size) = true := decide_eq_true hbig
    have HB := Aside.mk (show 65536 < s.data.toList.length by rw [size_len]; exact hbig)
    clear hbig hw
    go_enter Tryd.func12, Tryd.ntmps12
    go_wp2
    go_ret2
    exact ⟨.inl ⟨HB.out, rfl⟩, Below.refl _ _⟩
  have t1 : decide ((65536 : Int) < (s.size : Int)) = false := decide_eq_false (by omega)
  have t2 : decide (65536 < s.size) = false := decide_eq_false hbig
  have HSM := Aside.mk (show s.data.toList.length ≤ 65536 by rw [size_len]; omega)
  by_cases he : s.data.toList = []
  · have q1 : s.toList.isEmpty = true := by rw [str_nil, decide_eq_true he]
    have HE := Aside.mk he
    clear hbig he hw
    go_enter Tryd.func12, Tryd.ntmps12
    go_wp2
    go_ret2
    exact ⟨.inr (.inr ⟨HSM.out, by rw [HE.out]; rfl, none, 0, by rw [HE.out]; rfl, by rw [HE.out]; exact Nat.le_refl _, fun h => absurd (by rw [HE.out]; rfl) h⟩), Below.refl _ _⟩
  · have q1 : s.toList.isEmpty = false := by rw [str_nil, decide_eq_false he]
    have HWO := Aside.mk (show wordsOf s.data.toList = sp 32 s.data.toList by unfold wordsOf; rw [if_neg he])
    have HLB := Aside.mk (show lineB s.data.toList = (sp 32 s.data.toList).all plainB by unfold lineB; rw [decide_eq_false he, Bool.false_or])
    have H := Aside.mk (splitC s 32 hs w hw)
    clear hbig he hw
    go_enter Tryd.func12, Tryd.ntmps12
    go_wp2_with (go_at_call 48; refine H.out.mono ?_; rintro e w2 ⟨ad, rfl, ht, hb⟩; have HT := Aside.mk ht; have HB0 := Aside.mk hb; clear ht hb)
    have HCT := Aside.mk (show (sp 32 s.data.toList).length ≤ 1000001 by have := sp_count 32 s.data.toList; have := HSM.out; omega)
    generalize sp 32 s.data.toList = ws at *
    clear t1 t2 q1
    go_loopw [6, 16] (fun v x wr => ∃ i : Nat, i ≤ ws.length ∧ x = .int .i64 i ∧ Aside (∀ j (h : j < ws.length), j < i → plainB ws[j] = true) ∧ Aside (Txts wr (some ad) ws) ∧ Aside (Below w.heap.size w wr)) (fun _ x _ => ws.length - (intOf x).toNat)
    case atStart => exact ⟨0, Nat.zero_le _, rfl, ⟨fun j _ h => by omega⟩, HT, HB0⟩
    case round =>
      clear HT HB0
      obtain ⟨i, hi, rfl, HP, HT, HB⟩ := hrel
      by_cases hlt : i < ws.length
      · have t1 : decide ((i : Int) < (ws.length : Int)) = true := decide_eq_true (by omega)
        have t2 : decide (i < ws.length) = true := decide_eq_true hlt
        have t3 : (i : Int) < (ws.length : Int) := by omega
        have HI := Aside.mk hlt
        have ei := i1 (show i < 4611686018427387904 by have := HCT.out; omega)
        obtain ⟨ad2, e2, hx⟩ := HT.out.at i hlt
        injection e2 with e2
        subst e2
        have HC := Aside.mk (plain_ (bs ws[i]) wr)
        rw [bs_data] at HC
        have HPN := Aside.mk (fun (hp : plainB ws[i] = true) => (fun j h hj => by
          by_cases e : j = i
          · subst e; exact hp
          · exact HP.out j h (by omega) : ∀ j (h : j < ws.length), j < i + 1 → plainB ws[j] = true))
        have HPF := Aside.mk (fun (hp : plainB ws[i] = false) => (show ws.all plainB = false by
          rw [List.all_eq_false]; exact ⟨_, List.getElem_mem hlt, by rw [hp]; decide⟩))
        generalize ws[i] = x at *
        clear hi hlt
        cases hp : plainB x with
        | true =>
          rw [hp] at HC
          have HPN2 := Aside.mk (HPN.out hp)
          clear hp HPN HPF
          go_wp2_with (go_at_call 49; refine HC.out.mono ?_; rintro e w3 ⟨rfl, hb⟩; have HB3 := Aside.mk (HB.out.trans (hb.mono HB.out.size)); have HT3 := Aside.mk (HT.out.below hb); clear hb)
          go_roundw
          case rel => exact ⟨i + 1, HI.out, by first | rfl | simp, HPN2, HT3, HB3⟩
          case measure =>
            have := HI.out
            have e9 : ((i : Int) + 1).toNat = i + 1 := by omega
            simp only [intOf, e9, Int.toNat_natCast]
            omega
        | false =>
          rw [hp] at HC
          have HPF2 := Aside.mk (HPF.out hp)
          clear hp HPN HPF
          go_wp2_with (go_at_call 49; refine HC.out.mono ?_; rintro e w3 ⟨rfl, hb⟩; have HB3 := Aside.mk (HB.out.trans (hb.mono HB.out.size)); clear hb)
          go_ret2
          exact ⟨.inr (.inl ⟨HSM.out, by rw [HLB.out, HPF2.out], rfl⟩), HB3.out⟩
      · have t1 : decide ((i : Int) < (ws.length : Int)) = false := decide_eq_false (by omega)
        have t2 : decide (i < ws.length) = false := decide_eq_false hlt
        have HA := Aside.mk (show ws.all plainB = true by
          rw [List.all_eq_true]
          intro x hx
          obtain ⟨j, hj, rfl⟩ := List.mem_iff_getElem.1 hx
          exact HP.out j hj (by omega))
        clear hlt hi
        go_wp2
        go_ret2
        exact ⟨.inr (.inr ⟨HSM.out, by rw [HLB.out, HA.out], some ad, ws.length, by rw [HWO.out]; rfl, by rw [HWO.out]; exact Nat.le_refl _, by rw [HWO.out]; exact HT.out⟩), HB.out⟩
/-! ### lines -/
def strLen : Value → Nat
  | .string b => b.size
  | _ => 0
theorem cutC (r : List UInt8) (hr : r.length ≤ 1000000) (w : World) (hw : LibW w) :
    Calls Tryd.prog 50 #[.string (bs r), .string ⟨#[10]⟩] w fun e w' => e = .returned (.tuple #[.string (bs (Lib.cut r [10]).1), .string (bs (Lib.cut r [10]).2.1), .bool (Lib.cut r [10]).2.2]) ∧ Below w.heap.size w w' := by
  obtain ⟨m, hm⟩ := hw.ml
  have := Tryd.strings_Cut (bs r) ⟨#[10]⟩ m w (by rw [bs_size]; omega) hm
  rw [bs_data] at this
  exact this.mono fun e w' ⟨he, n, hw'⟩ => ⟨he, by rw [hw']; exact pw_below_drewN (Below.refl _ _) n⟩
set_option maxHeartbeats 4000000 in
theorem lines_w (s : ByteArray) (hs : s.size ≤ 1000000) (w : World) (hw : LibW w) :
    Calls Tryd.prog 13 #[.string s] w fun e w' => LinesRes w.heap.size s e w' ∧ Below w.heap.size w w' := by
  by_cases hbig : 65536 < s.size
  · have t1 : decide ((65536 : Int) < (s.size : Int)) = true := decide_eq_true (by omega)
    have t2 : decide (65536 < s.size) = true := decide_eq_true hbig
    have HB := Aside.mk hbig
    clear hbig hw
    go_enter Tryd.func13, Tryd.ntmps13
    go_wp2
    go_ret3
    exact ⟨.inl ⟨HB.out, rfl⟩, Below.refl _ _⟩
  have t1 : decide ((65536 : Int) < (s.size : Int)) = false := decide_eq_false (by omega)
  have t2 : decide (65536 < s.size) = false := decide_eq_false hbig
  have HSM := Aside.mk (show s.size ≤ 65536 by omega)
  have HW := Aside.mk hw
  have HB0 := Aside.mk (Below.refl w.heap.size w)
  clear hbig hw
  go_enter Tryd.func13, Tryd.ntmps13
  go_wp2_with fail
  clear t1 t2
  go_loopw [0, 5] (fun y v wr => ∃ (r : List UInt8) (out : List (List UInt8)), y = .string (bs r) ∧ Aside (sp 10 s.data.toList = out ++ sp 10 r ∧ r.length ≤ 65536 ∧ (∀ l ∈ out, lineB l = true) ∧ out.length + r.length ≤ 65536) ∧ Aside (Own wr w.heap.size v out) ∧ Aside (Below w.heap.size w wr)) (fun y _ _ => strLen y)
  case atStart => exact ⟨s.data.toList, [], by rw [data_bs], ⟨rfl, by rw [size_len]; exact HSM.out, fun l h => by simp at h, by rw [size_len, List.length_nil, Nat.zero_add]; exact HSM.out⟩, ⟨Kd.R_nil _ _ _ _ _⟩, HB0⟩
  case round =>
    clear HB0
    obtain ⟨r, out, rfl, HS, HO, HB⟩ := hrel
    have HLIM := Aside.mk (show out.length ≤ 65536 by have := HS.out.2.2.2; omega)
    have hvo : ∃ A c, u5 = Value.slice A out.length c := by
      obtain ⟨A, c, rfl, _⟩ := Kd.R_reads HO.out
      exact ⟨A, c, by simp⟩
    have HN := Aside.mk (str_nil (bs r))
    rw [bs_data] at HN
    by_cases he : r = []
    · have q1 : (bs r).toList.isEmpty = true := by rw [HN.out, decide_eq_true he]
      have HLN := Aside.mk (lines_end HS.out.2.2.1 (by rw [HS.out.1, he]; rfl))
      clear he hvo
      go_wp2
      go_ret3
      exact ⟨.inr (.inr ⟨HSM.out, _, _, HLN.out, HO.out, rfl⟩), HB.out⟩
    · have q1 : (bs r).toList.isEmpty = false := by rw [HN.out, decide_eq_false he]
      have HC := Aside.mk (cutC r (by have := HS.out.2.1; omega) wr (HW.out.below HB.out))
      obtain ⟨A0, c0, rfl⟩ := hvo
      have eo := i1 (show out.length < 4611686018427387904 by have := HLIM.out; omega)
      rcases parts 10 r with hn | ⟨p, l, hpl, hp⟩
      · rw [cut_out r hn] at HC
        have HLN := Aside.mk (lines_rest HS.out.2.2.1 he (by rw [HS.out.1, sp_none r hn]))
        have HSW := Aside.mk (fun w2 (b : Below w.heap.size w w2) => split_w (bs r) (by rw [bs_size]; have := HS.out.2.1; omega) w2 (HW.out.below b))
        rw [bs_data] at HSW
        clear he hn
        go_wp2_with (go_at_call 50; refine HC.out.mono ?_; rintro e w3 ⟨rfl, hb⟩; have HB3 := Aside.mk (HB.out.trans (hb.mono HB.out.size)); clear hb)
        refine (HSW.out _ HB3.out).mono ?_
        rintro e w4 ⟨hsr, hb⟩
        have HB4 := Aside.mk (HB3.out.trans (hb.mono HB3.out.size))
        clear hb
        rcases hsr with ⟨h1, rfl⟩ | ⟨_, _, rfl⟩ | ⟨_, _, A1, c1, rfl, _, _⟩
        · exact absurd h1 (by have := HS.out.2.1; omega)
        · go_wp2
          go_ret3
          exact ⟨.inr (.inl ⟨HSM.out, _, HLN.out, rfl⟩), HB4.out⟩
        · go_wp2
          go_ret3
          exact ⟨.inr (.inl ⟨HSM.out, _, HLN.out, rfl⟩), HB4.out⟩
      · have hcut : Lib.cut r [10] = (p, l, true) := by rw [hpl]; exact cut_front p l hp
        rw [hcut] at HC
        have HSPL := Aside.mk (show sp 10 s.data.toList = out ++ p :: sp 10 l by rw [HS.out.1, hpl, sp_front p l hp])
        have HLEN := Aside.mk (show r.length = p.length + 1 + l.length by rw [hpl]; simp; omega)
        have HSW := Aside.mk (fun w2 (b : Below w.heap.size w w2) => split_w (bs p) (by rw [bs_size]; have := HS.out.2.1; have := HLEN.out; omega) w2 (HW.out.below b))
        rw [bs_data] at HSW
        clear he hp hpl hcut
        go_wp2_with (go_at_call 50; refine HC.out.mono ?_; rintro e w3 ⟨rfl, hb⟩; have HB3 := Aside.mk (HB.out.trans (hb.mono HB.out.size)); have HO3 := Aside.mk (Kd.R_below HO.out hb); clear hb)
        refine (HSW.out _ HB3.out).mono ?_
        rintro e w4 ⟨hsr, hb⟩
        have HB4 := Aside.mk (HB3.out.trans (hb.mono HB3.out.size))
        have HO4 := Aside.mk (Kd.R_below HO3.out hb)
        clear hb HO3
        rcases hsr with ⟨h1, rfl⟩ | ⟨_, hlb, rfl⟩ | ⟨_, hlb, A1, c1, rfl, _, _⟩
        · exact absurd h1 (by have := HS.out.2.1; have := HLEN.out; omega)
        · have HLN := Aside.mk (lines_bad HS.out.2.2.1 hlb (sp_ne 10 _) HSPL.out)
          clear hlb
          go_wp2
          go_ret3
          exact ⟨.inr (.inl ⟨HSM.out, _, HLN.out, rfl⟩), HB4.out⟩
        · have HLB := Aside.mk hlb
          clear hlb
          go_wp2_with ((with_reducible refine gate_builtin (b := .append) (xs := #[.tmp 36, .tmp 38]) rfl ?_); at_builtin; refine Kd.R_append Kd.string (w0 := w) w.heap.size rfl (.tmp 36) (.tmp 38) 23 9 (.string ByteArray.empty) 16 rfl Tryd.underlying23 info9 rfl (by decide) (by omega) (.slice A0 out.length c0) (out.map bs) (bs p) [.string (bs p)] (fun _ => True) (fun _ => False) rfl rfl ?aP (fun _ hk => hk.elim) ?aF ?aO ?aB ?aS ?aL ?_; (case aP => exact rfl); (case aB => exact HB4.out); (case aF => exact (fun _ _ => trivial)); (case aO => exact HO4.out); (case aS => exact HB4.out.size); (case aL => have := HLIM.out; simp; omega); intro vN wN hoN hbN hgN hatN; have HON := Aside.mk hoN; have HBN := Aside.mk hbN; have HGN := Aside.mk hgN; clear hoN hbN hgN hatN)
          go_roundw
          case rel => exact ⟨l, out ++ [p], rfl, ⟨by rw [HSPL.out]; simp, by have := HS.out.2.1; have := HLEN.out; omega, fun x hx => by
            rcases List.mem_append.1 hx with h | h
            · exact HS.out.2.2.1 x h
            · rw [List.mem_singleton] at h; subst h; exact HLB.out, by have := HS.out.2.2.2; have := HLEN.out; simp; omega⟩, ⟨by unfold Own; rw [List.map_append]; exact HON.out⟩, HBN⟩
          case measure =>
            have := HLEN.out
            simp only [strLen, bs_size]
            omega
theorem join_w {w : World} {g cap : Nat} {ws : List (List UInt8)} (h : Txts w (some ⟨g, 0, none⟩) ws) (h0 : 0 < ws.length) (hcap : ws.length ≤ cap) (hlen : (Lib.join ws [32]).length ≤ 140737488355328) (hn : ws.length ≤ 140737488355328) :
    Calls Tryd.prog 37 #[.slice (some ⟨g, 0, none⟩) ws.length cap] w fun e w' => e = .returned (.string (bs (Lib.join ws [32]))) ∧ Below w.heap.size w w' := by
  have H := Aside.mk (joinC 32 h h0 hcap hlen hn)
  clear h h0 hcap hlen hn
  go_enter Tryd.func37, Tryd.ntmps37
  go_wp2_with (go_at_call 56; refine H.out.mono ?_; rintro e w' ⟨rfl, hb⟩)
  go_ret
  exact ⟨rfl, hb⟩
end Go.Proofs.YtabcdcnnamflfaaDoor.Wd
