/- Words walked: which texts are words; numerals as the document's; lines byte by byte. No table of the library's is read here. -/
import Derived.Test.YtabcdcnnamflfaaDoorWdPure
import Derived.Test.YtabcdcnnamflfaaDoorWLast
import Derived.Test.YtabcdcnnamflfaaDoorWMore
import Derived.Test.YtabcdcnnamflfaaDoorWWords
import Derived.Lib.OthersKept
import Derived.Lib.Strings
import Derived.Laws.Strings2
import Derived.Lib.SmallJoins
import Derived.Lib.ItoaLen
import Derived.Laws.RangeString
import Derived.Test.YtabcdcnnamflfaaDoorChecked
import Derived.Deep.LoopGhost
import Derived.Deep.QuietTactic
import Derived.BigQuiet
import Derived.Below
set_option linter.unusedVariables false
set_option linter.unusedSimpArgs false
set_option maxRecDepth 100000
namespace Go.Proofs.YtabcdcnnamflfaaDoor.Wd
open Go.RowKit Go.Proofs.YtabcdcnnamflfaaDoorW.PrintWords Go.Proofs.YtabcdcnnamflfaaDoorW.PrintLast Go.Proofs.YtabcdcnnamflfaaDoorW.PrintMore
/-- A fact that the walk does not look into. -/
structure Aside (p : Prop) : Prop where mk :: (out : p)
theorem plain_at {s : ByteArray} {pos : Nat} (h : pos < s.size) (hb : okB (s[pos]'h) = false) : plainB s.data.toList = false := by
  rw [plainB_eq]
  have : s.data.toList.all okB = false := by
    rw [List.all_eq_false]
    exact ⟨s[pos]'h, by have := Lib.data_getElem? s pos h; exact List.mem_of_getElem? this, by rw [hb]; decide⟩
  rw [this, Bool.and_false]
theorem plain_all {s : ByteArray} (h : ∀ j (hj : j < s.size), okB (s[j]'hj) = true) : plainB s.data.toList = !s.data.toList.isEmpty := by
  rw [plainB_eq]
  have : s.data.toList.all okB = true := by
    rw [List.all_eq_true]
    intro b hb
    obtain ⟨j, hj, rfl⟩ := List.mem_iff_getElem.1 hb
    exact h j (by simpa using hj)
  rw [this, Bool.and_true]
set_option maxHeartbeats 2000000 in
theorem plain_ (s : ByteArray) (w : World) : Calls Tryd.prog 49 #[.string s] w fun e w' => e = .returned (.bool (plainB s.data.toList)) ∧ Below w.heap.size w w' := by
  go_enter Tryd.func49, Tryd.ntmps49
  go_wp2
  go_loopg [4] s.size (fun gf v wx => ∃ pos : Nat, pos ≤ s.size ∧ wx.heap[w.heap.size]? = some (.stringIter s pos) ∧ Aside (Below w.heap.size w wx) ∧ Aside (∀ j (hj : j < s.size), j < pos → okB (s[j]'hj) = true) ∧ s.size ≤ pos + gf)
  case atStart => exact ⟨0, Nat.zero_le _, World.iter_heap w s 0, ⟨(Below.refl _ w).alloc (Nat.le_refl _) _⟩, ⟨fun j _ h => by omega⟩, by omega⟩
  case round =>
    obtain ⟨pos, hpl, hit, HB, HA, hfu⟩ := hrel
    by_cases hps : pos < s.size
    · obtain ⟨g', rfl⟩ : ∃ g', gk = g' + 1 := ⟨gk - 1, by omega⟩
      have hnx : ∀ ty, (Instr.next (.pointer (some ⟨w.heap.size, 0, none⟩)) true ty).run Tryd.prog wr = _ := fun ty => Lib.run_next_any_at wr w.heap.size s pos ty hit hps
      obtain ⟨R, hR⟩ : ∃ R, (Utf8.decode s pos).1 = R := ⟨_, rfl⟩
      obtain ⟨K, hK⟩ : ∃ K, (Utf8.decode s pos).2 = K := ⟨_, rfl⟩
      rw [hR, hK] at hnx
      have hit2 := Lib.iterAt_heap wr w.heap.size s pos (pos + K) hit
      have HB2 := Aside.mk (Lib.below_iterAt HB.out (k := w.heap.size) (Nat.le_refl _) s (pos + K))
      obtain ⟨W, hWd⟩ : ∃ W, wr.iterAt w.heap.size s (pos + K) = W := ⟨_, rfl⟩
      rw [hWd] at hnx hit2 HB2
      have hget : s.get! pos = s[pos]'hps := by
        show s.data[pos]! = _
        rw [getElem!_pos s.data pos hps]; rfl
      by_cases hb : okB (s[pos]'hps) = true
      · have hb' : 32 < (s[pos]'hps).toNat ∧ (s[pos]'hps).toNat ≤ 126 := by simpa [okB] using hb
        have hdec := decode_ascii s pos hps (by omega)
        rw [hdec] at hR hK
        obtain rfl : (s[pos]'hps).toNat = R := hR
        obtain rfl : 1 = K := hK
        have t1 : decide (((s[pos]'hps).toNat : Int) ≤ 32) = false := decide_eq_false (by omega)
        have t2 : decide (126 < ((s[pos]'hps).toNat : Int)) = false := decide_eq_false (by omega)
        have t3 : decide ((s[pos]'hps).toNat ≤ 32) = false := decide_eq_false (by omega)
        have t4 : decide (126 < (s[pos]'hps).toNat) = false := decide_eq_false (by omega)
        have HAN := Aside.mk (show ∀ j (hj : j < s.size), j < pos + 1 → okB (s[j]'hj) = true from fun j hj hlt => by
          by_cases e : j = pos
          · subst e; exact hb
          · exact HA.out j hj (by omega))
        clear hdec hb hb' hget hWd
        go_wp2
        go_roundg g'
        case measure => omega
        case rel => exact ⟨pos + 1, by omega, hit2, HB2, HAN, by omega⟩
      · have hb2 : okB (s[pos]'hps) = false := by simpa using hb
        have HP := Aside.mk (plain_at hps hb2)
        have hRR : R ≤ 32 ∨ 126 < R := by
          by_cases hlo : (s[pos]'hps).toNat < 128
          · have hdec := decode_ascii s pos hps hlo
            rw [hdec] at hR
            have : (s[pos]'hps).toNat = R := hR
            simp [okB] at hb2
            omega
          · have := decode_high s pos (by rw [hget]; omega)
            omega
        clear hK hb hb2 hget hWd
        have key : decide ((R : Int) ≤ 32) = true ∨ (decide ((R : Int) ≤ 32) = false ∧ decide (126 < (R : Int)) = true) := by
          by_cases h : R ≤ 32
          · exact .inl (decide_eq_true (by omega))
          · exact .inr ⟨decide_eq_false (by omega), decide_eq_true (by omega)⟩
        clear hRR
        rcases key with t1 | ⟨t1, t2⟩
        · go_wp2
          go_ret
          exact ⟨by rw [HP.out]; rfl, HB2.out⟩
        · go_wp2
          go_ret
          exact ⟨by rw [HP.out]; rfl, HB2.out⟩
    · have hnx : ∀ ty, (Instr.next (.pointer (some ⟨w.heap.size, 0, none⟩)) true ty).run Tryd.prog wr = _ := fun ty => Lib.run_next_end_at wr w.heap.size s pos ty hit hps
      have HP := Aside.mk (plain_all (fun j hj => HA.out j hj (by omega)))
      go_wp2
      go_ret
      exact ⟨by rw [HP.out, ← Lib.toList_data]; rfl, HB.out⟩
/-- A text as the machine's string. -/
def bs (l : List UInt8) : ByteArray := ⟨l.toArray⟩
theorem bs_data (l : List UInt8) : (bs l).data.toList = l := by simp [bs]
theorem data_bs (s : ByteArray) : bs s.data.toList = s := by simp [bs]
theorem bs_append (a b : List UInt8) : bs a ++ bs b = bs (a ++ b) := by
  have := congrArg bs (Joins.data_append (bs a) (bs b))
  rw [data_bs, bs_data, bs_data] at this
  exact this
theorem bs_size (l : List UInt8) : (bs l).size = l.length := by simp [bs, ByteArray.size]
theorem dec_len (x : Nat) (h : x < 18446744073709551616) : (Lib.decDigits x).length ≤ 20 := by rw [Lib.decDigits_length]; exact Lib.nDigits_le20 x h
theorem itoa_len (n : Int) (h0 : -9223372036854775808 ≤ n) (h1 : n ≤ 9223372036854775807) : (Lib.itoa n).length ≤ 21 := by
  unfold Lib.itoa
  split
  · have := dec_len n.natAbs (by omega)
    simp; omega
  · have := dec_len n.toNat (by omega)
    omega
theorem digit_str (d : Nat) (h : d < 10) : strOfNums [48 + (d : Int)] = bs [UInt8.ofNat (48 + d)] := by
  have e : (48 + (d : Int)).toNat = 48 + d := by omega
  simp [strOfNums, bs, e]
theorem conv_digit (w : World) (d : Nat) (h : d < 10) : (convert 102 9 (.slice (some ⟨w.heap.size, 0, none⟩) 1 1)).run Tryd.prog (w.alloc (.cells #[.int .u8 (48 + (d : Int))] 5)) = .ok (.string (bs [UInt8.ofNat (48 + d)])) (w.alloc (.cells #[.int .u8 (48 + (d : Int))] 5)) := by
  rw [← digit_str d h]
  refine string_of_reads Tryd.underlying102 Tryd.underlying5 Tryd.underlying9 ⟨rfl, by decide, fun _ => ⟨_, rfl, fun j hj => ?_⟩⟩
  obtain rfl : j = 0 := by omega
  rw [add_plain]
  exact (blk_cell (heap_alloc_new w (.cells #[.int .u8 (48 + (d : Int))] 5)) 0).trans rfl
set_option maxHeartbeats 2000000 in
theorem digits_ : ∀ (n : Nat) (x : Nat), x < n → x < 18446744073709551616 → ∀ w, Calls Tryd.prog 54 #[.int .u64 x] w fun e w' => e = .returned (.string (bs (Lib.decDigits x))) ∧ Below w.heap.size w w' := by
  intro n
  induction n with
  | zero => intro x h; omega
  | succ n ih =>
    intro x hx h64 w
    have hcv := conv_digit w (x % 10) (by omega)
    have hm : ((x % 10 : Nat) : Int) = (x : Int) % 10 := by omega
    obtain ⟨sd, hsd⟩ : ∃ sd, bs [UInt8.ofNat (48 + x % 10)] = sd := ⟨_, rfl⟩
    rw [hm, hsd] at hcv
    have HS := Aside.mk hsd
    clear hsd
    have HB := Aside.mk (below_alloc (Below.refl w.heap.size w) (.cells #[.int .u8 (48 + (x : Int) % 10)] 5))
    by_cases h10 : x < 10
    · have t1 : decide ((x : Int) < 10) = true := decide_eq_true (by omega)
      have t2 : decide (x < 10) = true := decide_eq_true h10
      have HD := Aside.mk (show Lib.decDigits x = [UInt8.ofNat (48 + x % 10)] by rw [Lib.decDigits, dif_pos h10, Nat.mod_eq_of_lt h10])
      clear h10
      go_enter Tryd.func54, Tryd.ntmps54
      go_wp2
      go_ret
      exact ⟨by rw [HD.out, HS.out]; rfl, HB.out⟩
    · have t1 : decide ((x : Int) < 10) = false := decide_eq_false (by omega)
      have t2 : decide (x < 10) = false := decide_eq_false h10
      have HD := Aside.mk (show Lib.decDigits x = Lib.decDigits (x / 10) ++ [UInt8.ofNat (48 + x % 10)] by rw [Lib.decDigits, dif_neg h10])
      have HI := Aside.mk (fun w => ih (x / 10) (by omega) (by omega) w)
      have hcat : ¬ 9223372036854775807 < (bs (Lib.decDigits (x / 10))).size + sd.size := by
        rw [← HS.out, bs_size, bs_size]
        have := dec_len (x / 10) (by omega)
        simp only [List.length_cons, List.length_nil]; omega
      have hq : ((x / 10 : Nat) : Int) = (x : Int) / 10 := by omega
      rw [hq] at HI
      clear h10 ih
      go_enter Tryd.func54, Tryd.ntmps54
      go_wp2_with (go_at_call 54; refine (HI.out _).mono ?_; rintro e w' ⟨rfl, hb⟩)
      go_ret
      exact ⟨by rw [HD.out, ← bs_append, HS.out]; rfl, HB.out.trans (hb.mono HB.out.size)⟩
theorem big_ (x : Nat) (h : x < 18446744073709551616) (w : World) : Calls Tryd.prog 22 #[.int .u64 x] w fun e w' => e = .returned (.string (bs (Lib.decDigits x))) ∧ Below w.heap.size w w' := by
  have H := Aside.mk (fun w => digits_ (x + 1) x (by omega) h w)
  clear h
  go_enter Tryd.func22, Tryd.ntmps22
  go_wp2_with (go_at_call 54; refine (H.out _).mono ?_; rintro e w' ⟨rfl, hb⟩)
  go_ret
  exact ⟨rfl, hb⟩
set_option maxHeartbeats 2000000 in
theorem num_ (n : Int) (h0 : -9223372036854775808 ≤ n) (h1 : n ≤ 9223372036854775807) (w : World) : Calls Tryd.prog 21 #[.int .i64 n] w fun e w' => e = .returned (.string (bs (Lib.itoa n))) ∧ Below w.heap.size w w' := by
  by_cases hn : n < 0
  · have t1 : decide (n < 0) = true := decide_eq_true hn
    obtain ⟨m, hm⟩ : ∃ m : Nat, n = -((m : Int) + 1) := ⟨(-(n + 1)).toNat, by omega⟩
    have HI := Aside.mk (show Lib.itoa n = [45] ++ Lib.decDigits (m + 1) by unfold Lib.itoa; rw [if_pos hn, show n.natAbs = m + 1 by omega]; rfl)
    have H := Aside.mk (fun w => digits_ (m + 2) (m + 1) (by omega) (by omega) w)
    have e1 : IntKind.i64.wrap (n + 1) = -(m : Int) := by rw [IntKind.wrap_i64]; omega
    have e2 : IntKind.i64.wrap (m : Int) = (m : Int) := by rw [IntKind.wrap_i64]; omega
    have e3 : IntKind.u64.wrap (m : Int) = (m : Int) := by rw [IntKind.wrap_u64]; omega
    have e4 : IntKind.u64.wrap ((m : Int) + 1) = ((m + 1 : Nat) : Int) := by rw [IntKind.wrap_u64]; omega
    have hcat : ¬ 9223372036854775807 < (bs [45]).size + (bs (Lib.decDigits (m + 1))).size := by
      rw [bs_size, bs_size]
      have := dec_len (m + 1) (by omega)
      simp only [List.length_cons, List.length_nil]; omega
    clear hn h0 h1 hm
    go_enter Tryd.func21, Tryd.ntmps21
    go_wp2_with (go_at_call 54; refine (H.out _).mono ?_; rintro e w' ⟨rfl, hb⟩)
    go_ret
    exact ⟨by rw [HI.out, ← bs_append]; rfl, hb⟩
  · have t1 : decide (n < 0) = false := decide_eq_false hn
    obtain ⟨m, rfl⟩ : ∃ m : Nat, n = (m : Int) := ⟨n.toNat, by omega⟩
    have HI := Aside.mk (show Lib.itoa (m : Int) = Lib.decDigits m from Lib.itoa_nonneg m)
    have H := Aside.mk (fun w => digits_ (m + 1) m (by omega) (by omega) w)
    have e3 : IntKind.u64.wrap (m : Int) = (m : Int) := by rw [IntKind.wrap_u64]; omega
    clear hn h0 h1
    go_enter Tryd.func21, Tryd.ntmps21
    go_wp2_with (go_at_call 54; refine (H.out _).mono ?_; rintro e w' ⟨rfl, hb⟩)
    go_ret
    exact ⟨by rw [HI.out]; rfl, hb⟩
theorem join_snoc (sep y : List UInt8) : ∀ (xs : List (List UInt8)), xs ≠ [] → Lib.join (xs ++ [y]) sep = Lib.join xs sep ++ (sep ++ y)
  | [], h => absurd rfl h
  | x :: r, _ => by
    rw [List.cons_append, Lib.join_cons, Lib.join_cons, List.append_assoc]
    congr 1
    simp [Lib.joinTail]
theorem join_len (b : Nat) : ∀ (xs : List (List UInt8)) (c : UInt8), (∀ w ∈ xs, w.length ≤ b) → (Lib.join xs [c]).length ≤ (b + 1) * xs.length
  | [], _, _ => by simp [Lib.join_nil]
  | x :: r, c, h => by
    rw [Lib.join_cons, List.length_append]
    have h1 := h x (by simp)
    have h2 : ∀ (r : List (List UInt8)), (∀ w ∈ r, w.length ≤ b) → (Lib.joinTail [c] r).length ≤ (b + 1) * r.length := by
      intro r
      induction r with
      | nil => intro _; simp [Lib.joinTail]
      | cons y r ih =>
        intro hr
        rw [joinTail_cons]
        have h3 := hr y (by simp)
        have h4 := ih (fun w hw => hr w (List.mem_cons_of_mem _ hw))
        simp only [List.length_append, List.length_cons, List.length_nil, Nat.mul_succ]
        omega
    have h5 := h2 r (fun w hw => h w (List.mem_cons_of_mem _ hw))
    simp only [List.length_cons, Nat.mul_succ]
    omega
/-- A row of numbers, read. -/
structure Rv (w : World) (A : Option Addr) (c : Nat) (l : List Int) : Prop where
  rd : Kd.C (Kd.int .i64) w A l.length l
  cap : l.length ≤ c
  ok : ∀ n ∈ l, -9223372036854775808 ≤ n ∧ n ≤ 9223372036854775807
theorem Rv.below {w w' : World} {A : Option Addr} {c : Nat} {l : List Int} (h : Rv w A c l) (b : Below w.heap.size w w') : Rv w' A c l := ⟨Kd.C_below h.rd b, h.cap, h.ok⟩
theorem num_at {w : World} {A : Option Addr} {n : Nat} {xs : List Int} (h : (Kd.int .i64).C w A n xs) (i : Nat) (hi : i < n) (hx : i < xs.length) : ∃ ad, A = some ad ∧ w.cell? (ad.add i) = some (.int .i64 xs[i]) := by
  obtain ⟨ad, e, hc⟩ := Kd.at_int h (i : Int) (by omega) (by omega)
  rw [show rd xs (i : Int) = xs[i] by simp [rd, hx], Int.toNat_natCast] at hc
  exact ⟨ad, e, hc⟩
theorem i1 {i : Nat} (h : i < 4611686018427387904) : IntKind.i64.wrap ((i : Int) + 1) = ((i + 1 : Nat) : Int) := by rw [IntKind.wrap_i64]; omega
theorem join_bound (l : List Int) (h : ∀ n ∈ l, -9223372036854775808 ≤ n ∧ n ≤ 9223372036854775807) : (Lib.join (l.map Lib.itoa) [44]).length ≤ 22 * l.length := by
  have := join_len 21 (l.map Lib.itoa) 44 (fun w hw => by
    obtain ⟨n, hn, rfl⟩ := List.mem_map.1 hw
    exact itoa_len n (h n hn).1 (h n hn).2)
  simpa using this
set_option maxHeartbeats 4000000 in
theorem list_ {w : World} {A : Option Addr} {c : Nat} {l : List Int} (hr : Rv w A c l) (hl : l.length ≤ 100000) :
    Calls Tryd.prog 23 #[.slice A l.length c] w fun e w' => e = .returned (.string (bs (listTxt l))) ∧ Below w.heap.size w w' := by
  by_cases h0 : l.length = 0
  · have t1 : ((l.length : Int) == 0) = true := by simpa using h0
    have HL := Aside.mk (List.eq_nil_of_length_eq_zero h0)
    clear h0 hr
    go_enter Tryd.func23, Tryd.ntmps23
    go_wp2
    go_ret
    exact ⟨by rw [HL.out]; rfl, Below.refl _ _⟩
  · have t1 : ((l.length : Int) == 0) = false := by simpa using h0
    have t0 : (0 : Int) < (l.length : Int) := by omega
    have HL0 := Aside.mk (show 0 < l.length by omega)
    obtain ⟨a0, rfl, hx⟩ := num_at hr.rd 0 (by omega) (by omega)
    have HR := Aside.mk hr
    have hok := hr.ok _ (List.getElem_mem HL0.out)
    have hx0 : w.cell? (a0.add 0) = some (.int .i64 l[0]) := hx
    have hz : a0.add 0 = a0 := by simp [Addr.add]
    rw [hz] at hx0
    have H0 := Aside.mk (fun w => num_ (l[0]'HL0.out) hok.1 hok.2 w)
    have HT := Aside.mk (show l.take 1 = [l[0]'HL0.out] by
      have := List.take_succ_eq_append_getElem HL0.out
      simpa using this)
    generalize l[0]'HL0.out = n0 at *
    clear h0 hr hok hx
    go_enter Tryd.func23, Tryd.ntmps23
    go_wp2_with (go_at_call 21; refine (H0.out _).mono ?_; rintro e w' ⟨rfl, hb⟩; have HB0 := Aside.mk hb; clear hb)
    go_loopw [3, 4] (fun v x wr => ∃ i : Nat, 1 ≤ i ∧ i ≤ l.length ∧ x = .int .i64 i ∧ v = .string (bs (Lib.join ((l.take i).map Lib.itoa) [44])) ∧ Aside (Below w.heap.size w wr)) (fun _ x _ => l.length - (intOf x).toNat)
    case atStart => exact ⟨1, Nat.le_refl _, HL0.out, rfl, by rw [HT.out]; simp [Lib.join_one], HB0⟩
    case round =>
      clear HB0
      obtain ⟨i, hi1, hi, rfl, rfl, HB⟩ := hrel
      by_cases hlt : i < l.length
      · have t1 : decide ((i : Int) < (l.length : Int)) = true := decide_eq_true (by omega)
        have t2 : decide (i < l.length) = true := decide_eq_true hlt
        have t3 : (i : Int) < (l.length : Int) := by omega
        have HI := Aside.mk hlt
        obtain ⟨a1, ha1, hx⟩ := num_at HR.out.rd i hlt hlt
        injection ha1 with ha1
        subst ha1
        have hxw : wr.cell? (a0.add i) = some (.int .i64 l[i]) := (HB.out.cell (World.block_lt_of_cell? _ _ hx)).trans hx
        have hok := HR.out.ok _ (List.getElem_mem hlt)
        have HS := Aside.mk (show Lib.join ((l.take (i + 1)).map Lib.itoa) [44] = Lib.join ((l.take i).map Lib.itoa) [44] ++ [44] ++ Lib.itoa l[i] by
          rw [List.take_succ_eq_append_getElem hlt, List.map_append, List.map_singleton, join_snoc _ _ _ (by
            intro e
            have := congrArg List.length e
            simp only [List.length_map, List.length_take, List.length_nil] at this
            omega), List.append_assoc])
        have hb1 := join_bound (l.take i) (fun n hn => HR.out.ok n (List.mem_of_mem_take hn))
        have hb2 := itoa_len l[i] hok.1 hok.2
        have H := Aside.mk (fun w => num_ l[i] hok.1 hok.2 w)
        generalize Lib.join ((l.take i).map Lib.itoa) [44] = J at *
        generalize l[i] = n at *
        have hc1 : ¬ 9223372036854775807 < (bs J).size + 1 := by
          rw [bs_size]
          have := HL0.out
          simp only [List.length_take] at hb1
          omega
        have hc2 : ¬ 9223372036854775807 < (bs J ++ { data := #[44] }).size + (bs (Lib.itoa n)).size := by
          rw [show (bs J ++ { data := #[44] } : ByteArray) = bs (J ++ [44]) from bs_append J [44], bs_size, bs_size, List.length_append]
          simp only [List.length_take] at hb1
          simp only [List.length_cons, List.length_nil]
          omega
        have hc3 : ¬ 9223372036854775807 < (bs J).size + 1 + (bs (Lib.itoa n)).size := by
          rw [bs_size, bs_size]
          simp only [List.length_take] at hb1
          omega
        have ei := i1 (show i < 4611686018427387904 by omega)
        clear hb1 hb2 hok hx hi hlt
        go_wp2_with (go_at_call 21; refine (H.out _).mono ?_; rintro e w' ⟨rfl, hb⟩; have HB2 := Aside.mk (HB.out.trans (hb.mono HB.out.size)); clear hb)
        go_roundw
        case rel => exact ⟨i + 1, by omega, HI.out, by first | rfl | simp, by
          rw [HS.out, ← bs_append, ← bs_append]; rfl, HB2⟩
        case measure =>
          have := HI.out
          have e9 : ((i : Int) + 1).toNat = i + 1 := by omega
          simp only [intOf, e9, Int.toNat_natCast]
          omega
      · have t1 : decide ((i : Int) < (l.length : Int)) = false := decide_eq_false (by omega)
        have t2 : decide (i < l.length) = false := decide_eq_false hlt
        obtain rfl : i = l.length := by omega
        clear hlt hi hi1
        go_wp2
        go_ret
        exact ⟨by
          unfold listTxt
          rw [if_neg (fun e => by have := HL0.out; rw [e] at this; exact absurd this (by decide)), List.take_length]; rfl, HB.out⟩
theorem byte_at (s : ByteArray) (i : Nat) (h : i < s.size) : s.data.toList[i]'(by simpa using h) = s[i]'h := by
  have h1 := Lib.data_getElem? s i h
  rw [List.getElem?_eq_getElem (by simpa using h)] at h1
  injection h1
theorem lineG_drop (s : ByteArray) (p : Bool) (i : Nat) (h : i < s.size) : lineG p (s.data.toList.drop i) = if s[i]'h = 32 then !p && lineG true (s.data.toList.drop (i + 1)) else okB (s[i]'h) && lineG false (s.data.toList.drop (i + 1)) := by
  rw [List.drop_eq_getElem_cons (by simpa using h), byte_at s i h]; rfl
set_option maxHeartbeats 4000000 in
theorem line_ (s : ByteArray) (hs : s.size ≤ 1000000) (w : World) : Calls Tryd.prog 16 #[.string s] w fun e w' => e = .returned (.bool (lineB s.data.toList)) ∧ w' = w := by
  go_enter Tryd.func16, Tryd.ntmps16
  go_wp2_with fail
  go_loopw [3] (fun x wr => ∃ i : Nat, i ≤ s.size ∧ x = .int .i64 i ∧ wr = w ∧ Aside ((i = 0 ∧ (0 < s.size → lineB s.data.toList = lineG true (s.data.toList.drop 0))) ∨ (∃ h : i - 1 < s.size, 1 ≤ i ∧ lineB s.data.toList = lineG (decide (s[i - 1]'h = 32)) (s.data.toList.drop i) ∧ (i = s.size → s[i - 1]'h ≠ 32)))) (fun x _ => s.size - (intOf x).toNat)
  case atStart => exact ⟨0, Nat.zero_le _, rfl, rfl, ⟨.inl ⟨rfl, fun h => by
    rw [lineB_eq, List.drop_zero]
    have : s.data.toList.isEmpty = false := by
      cases hd : s.data.toList with
      | nil => have : s.data.toList.length = 0 := by rw [hd]; rfl
               rw [Array.length_toList] at this; have h3 : s.size = s.data.size := rfl; omega
      | cons a l => rfl
    rw [this, Bool.false_or]⟩⟩⟩
  case round =>
    obtain ⟨i, hi, rfl, rfl, HR⟩ := hrel
    by_cases hlt : i < s.size
    · have t1 : decide ((i : Int) < (s.size : Int)) = true := decide_eq_true (by omega)
      have t2 : decide (i < s.size) = true := decide_eq_true hlt
      have t3 : (i : Int) < (s.size : Int) := by omega
      have HI := Aside.mk hlt
      have ei := i1 (show i < 4611686018427387904 by omega)
      -- what is left of the line
      have hL : ∃ p : Bool, lineB s.data.toList = lineG p (s.data.toList.drop i) ∧ ((i = 0 ∧ p = true) ∨ ∃ h : i - 1 < s.size, 1 ≤ i ∧ p = decide (s[i - 1]'h = 32)) := by
        rcases HR.out with ⟨rfl, h2⟩ | ⟨h, h1, h2, _⟩
        · exact ⟨true, h2 hlt, .inl ⟨rfl, rfl⟩⟩
        · exact ⟨_, h2, .inr ⟨h, h1, rfl⟩⟩
      obtain ⟨p, hp, hpc⟩ := hL
      rw [lineG_drop s p i hlt] at hp
      clear HR
      by_cases hb : okB (s[i]'hlt) = true
      · have hb' : 32 < (s[i]'hlt).toNat ∧ (s[i]'hlt).toNat ≤ 126 := by simpa [okB] using hb
        have hne : s[i]'hlt ≠ 32 := fun e => by rw [e] at hb'; exact absurd hb'.1 (by decide)
        rw [if_neg hne, hb, Bool.true_and] at hp
        have HN := Aside.mk (show lineB s.data.toList = lineG (decide (s[i]'hlt = 32)) (s.data.toList.drop (i + 1)) ∧ s[i]'hlt ≠ 32 from ⟨by rw [decide_eq_false hne]; exact hp, hne⟩)
        have q1 : decide (((s[i]'hlt).toNat : Int) < 32) = false := decide_eq_false (by omega)
        have q2 : decide (126 < ((s[i]'hlt).toNat : Int)) = false := decide_eq_false (by omega)
        have q3 : (((s[i]'hlt).toNat : Int) == 32) = false := by rw [beq_eq_false_iff_ne]; omega
        have q4 : decide ((s[i]'hlt).toNat < 32) = false := decide_eq_false (by omega)
        have q5 : decide (126 < (s[i]'hlt).toNat) = false := decide_eq_false (by omega)
        have q6 : ((s[i]'hlt).toNat == 32) = false := by rw [beq_eq_false_iff_ne]; omega
        clear hp hpc hb hb' hne
        go_wp2
        go_roundw
        case rel => exact ⟨i + 1, HI.out, by first | rfl | simp, trivial, ⟨.inr ⟨HI.out, by omega, HN.out.1, fun _ => HN.out.2⟩⟩⟩
        case measure =>
          have := HI.out
          have e9 : ((i : Int) + 1).toNat = i + 1 := by omega
          simp only [intOf, e9, Int.toNat_natCast]
          omega
      · have hb2 : okB (s[i]'hlt) = false := by simpa using hb
        by_cases h32 : (s[i]'hlt).toNat = 32
        · have he : s[i]'hlt = 32 := UInt8.toNat_inj.1 h32
          rw [if_pos he] at hp
          have q1 : decide (((s[i]'hlt).toNat : Int) < 32) = false := decide_eq_false (by omega)
          have q2 : decide (126 < ((s[i]'hlt).toNat : Int)) = false := decide_eq_false (by omega)
          have q3 : (((s[i]'hlt).toNat : Int) == 32) = true := by rw [beq_iff_eq]; omega
          have q4 : decide ((s[i]'hlt).toNat < 32) = false := decide_eq_false (by omega)
          have q5 : decide (126 < (s[i]'hlt).toNat) = false := decide_eq_false (by omega)
          have q6 : ((s[i]'hlt).toNat == 32) = true := by rw [beq_iff_eq]; omega
          by_cases hi0 : i = 0
          · have r1 : ((i : Int) == 0) = true := by rw [beq_iff_eq]; omega
            have HF := Aside.mk (show lineB s.data.toList = false by
              rcases hpc with ⟨_, rfl⟩ | ⟨h, h1, _⟩
              · rw [hp]; rfl
              · omega)
            clear hp hpc hb hb2 h32 he hi0
            go_wp2
            go_ret
            exact ⟨by rw [HF.out]; rfl, rfl⟩
          · obtain ⟨k, hik⟩ : ∃ k, i = k + 1 := ⟨i - 1, by omega⟩
            have hk : k < s.size := by omega
            have hk2 : (k : Int) < (s.size : Int) := by omega
            have r1 : ((i : Int) == 0) = false := by rw [beq_eq_false_iff_ne]; omega
            have r2 : (i == 0) = false := by rw [beq_eq_false_iff_ne]; omega
            have r3 : IntKind.i64.wrap ((s.size : Int) - 1) = (s.size : Int) - 1 := by rw [IntKind.wrap_i64]; omega
            have r4 : IntKind.i64.wrap ((i : Int) - 1) = (k : Int) := by rw [IntKind.wrap_i64]; omega
            have HP := Aside.mk (show p = decide (s[k]'hk = 32) by
              rcases hpc with ⟨h, _⟩ | ⟨h, h1, h2⟩
              · omega
              · have e9 : i - 1 = k := by omega
                subst e9; exact h2)
            by_cases hlast : i = s.size - 1
            · have r5 : ((i : Int) == (s.size : Int) - 1) = true := by rw [beq_iff_eq]; omega
              have HF := Aside.mk (show lineB s.data.toList = false by
                rw [hp, List.drop_eq_nil_of_le (by simp; have h3 : s.size = s.data.size := rfl; omega)]; simp [lineG])
              clear hp hpc hb hb2 h32 he hi0 hik hlast
              go_wp2
              go_ret
              exact ⟨by rw [HF.out]; rfl, rfl⟩
            · have r5 : ((i : Int) == (s.size : Int) - 1) = false := by rw [beq_eq_false_iff_ne]; omega
              by_cases hprev : (s[k]'hk).toNat = 32
              · have he2 : s[k]'hk = 32 := UInt8.toNat_inj.1 hprev
                have r6 : (((s[k]'hk).toNat : Int) == 32) = true := by rw [beq_iff_eq]; omega
                have r7 : ((s[k]'hk).toNat == 32) = true := by rw [beq_iff_eq]; omega
                have HF := Aside.mk (show lineB s.data.toList = false by rw [hp, HP.out, decide_eq_true he2]; rfl)
                clear hp hpc hb hb2 h32 he hi0 hik hlast hprev he2
                go_wp2
                go_ret
                exact ⟨by rw [HF.out]; rfl, rfl⟩
              · have hne2 : s[k]'hk ≠ 32 := fun e => hprev (by rw [e]; rfl)
                have r6 : (((s[k]'hk).toNat : Int) == 32) = false := by rw [beq_eq_false_iff_ne]; omega
                have r7 : ((s[k]'hk).toNat == 32) = false := by rw [beq_eq_false_iff_ne]; omega
                rw [HP.out, decide_eq_false hne2, Bool.not_false, Bool.true_and] at hp
                have HN := Aside.mk (show lineB s.data.toList = lineG (decide (s[i]'hlt = 32)) (s.data.toList.drop (i + 1)) ∧ i + 1 ≠ s.size from ⟨by rw [decide_eq_true he]; exact hp, by omega⟩)
                clear hp hpc hb hb2 h32 he hi0 hik hlast hprev hne2
                go_wp2
                go_roundw
                case rel => exact ⟨i + 1, HI.out, by first | rfl | simp, trivial, ⟨.inr ⟨HI.out, by omega, HN.out.1, fun e => absurd e HN.out.2⟩⟩⟩
                case measure =>
                  have := HI.out
                  have e9 : ((i : Int) + 1).toNat = i + 1 := by omega
                  simp only [intOf, e9, Int.toNat_natCast]
                  omega
        · have hne : s[i]'hlt ≠ 32 := fun e => h32 (by rw [e]; rfl)
          rw [if_neg hne, hb2, Bool.false_and] at hp
          have HF := Aside.mk hp
          have hb3 : (s[i]'hlt).toNat < 32 ∨ 126 < (s[i]'hlt).toNat := by simp [okB] at hb2; omega
          clear hp hpc hb hb2 hne
          by_cases hlo : (s[i]'hlt).toNat < 32
          · have q1 : decide (((s[i]'hlt).toNat : Int) < 32) = true := decide_eq_true (by omega)
            have q4 : decide ((s[i]'hlt).toNat < 32) = true := decide_eq_true (by omega)
            clear hb3 h32
            go_wp2
            go_ret
            exact ⟨by rw [HF.out]; rfl, rfl⟩
          · have q1 : decide (((s[i]'hlt).toNat : Int) < 32) = false := decide_eq_false (by omega)
            have q2 : decide (126 < ((s[i]'hlt).toNat : Int)) = true := decide_eq_true (by omega)
            have q4 : decide ((s[i]'hlt).toNat < 32) = false := decide_eq_false (by omega)
            have q5 : decide (126 < (s[i]'hlt).toNat) = true := decide_eq_true (by omega)
            clear hb3 h32
            go_wp2
            go_ret
            exact ⟨by rw [HF.out]; rfl, rfl⟩
    · have t1 : decide ((i : Int) < (s.size : Int)) = false := decide_eq_false (by omega)
      have t2 : decide (i < s.size) = false := decide_eq_false hlt
      obtain rfl : i = s.size := by omega
      have HT := Aside.mk (show lineB s.data.toList = true by
        rcases HR.out with ⟨h0, _⟩ | ⟨h, h1, h2, h3⟩
        · have : s.data.toList = [] := List.eq_nil_of_length_eq_zero (by rw [Array.length_toList]; have h3 : s.size = s.data.size := rfl; omega)
          rw [this]; rfl
        · rw [h2, decide_eq_false (h3 rfl), List.drop_eq_nil_of_le (by rw [Array.length_toList]; exact Nat.le_refl _)]; rfl)
      clear hlt hi HR
      go_wp2
      go_ret
      exact ⟨by rw [HT.out]; rfl, rfl⟩
theorem slice_txt (s : ByteArray) (a b : Nat) (hab : a ≤ b) (hb : b ≤ s.size) {A B : Int} (hA : A = (a : Int)) (hB : B = (b : Int)) (W : World) :
    (Instr.slice 9 (.string s) (some (.int .i64 A)) (some (.int .i64 B)) none).run Tryd.prog W = .ok (.string (bs ((s.data.toList.drop a).take (b - a)))) W := by
  subst hA; subst hB
  rw [run_slice_string (t := 9) (s := s) (h := Tryd.underlying9) (h0 := by omega) (h1 := by omega) (h2 := by omega)]
  rw [Int.toNat_natCast, Int.toNat_natCast, ← Lib.extract_data, data_bs]
theorem drop_one (s : ByteArray) (i : Nat) (h : i < s.size) : (s.data.toList.drop i).take (i + 1 - i) = [s[i]'h] := by
  rw [List.drop_eq_getElem_cons (by simpa using h), show i + 1 - i = 1 by omega, byte_at s i h]; simp
theorem info9 : (Tryd.prog.info? 9).map (fun i => (i.zero, i.size, i.bytes)) = some (some (.string ByteArray.empty), 1, 16) := by kernel_rfl
theorem info3 : (Tryd.prog.info? 3).map (fun i => (i.zero, i.size, i.bytes)) = some (some (.int .i64 0), 1, 8) := by kernel_rfl
/-- A row of texts that one made oneself. -/
def Own (w : World) (base : Nat) (v : Value) (xs : List (List UInt8)) : Prop := Kd.R Kd.string 9 w base (fun _ => True) v (xs.map bs)
theorem take_snoc (s : ByteArray) (i : Nat) (h : i < s.size) : s.data.toList.take (i + 1) = s.data.toList.take i ++ [s[i]'h] := by
  rw [List.take_succ_eq_append_getElem (by simpa using h), byte_at s i h]
set_option maxHeartbeats 4000000 in
theorem split_ (s : ByteArray) (hs : s.size ≤ 1000000) (w : World) : Calls Tryd.prog 17 #[.string s] w fun e w' => ∃ v, e = .returned v ∧ Own w' w.heap.size v (wordsOf s.data.toList) ∧ Below w.heap.size w w' := by
  have HB0 := Aside.mk (Below.refl w.heap.size w)
  go_enter Tryd.func17, Tryd.ntmps17
  go_wp2_with fail
  go_loopw [3, 4, 5] (fun v y x wr => ∃ (i : Nat) (out : List (List UInt8)) (word : List UInt8), i ≤ s.size ∧ x = .int .i64 i ∧ y = .string (bs word) ∧ Aside (sp 32 (s.data.toList.take i) = out ++ [word] ∧ word.length ≤ i ∧ out.length ≤ i) ∧ Aside (Own wr w.heap.size v out) ∧ Aside (Below w.heap.size w wr)) (fun _ _ x _ => s.size - (intOf x).toNat)
  case atStart => exact ⟨0, [], [], Nat.zero_le _, rfl, rfl, ⟨rfl, Nat.le_refl _, Nat.le_refl _⟩, ⟨Kd.R_nil _ _ _ _ _⟩, HB0⟩
  case round =>
    clear HB0
    obtain ⟨i, out, word, hi, rfl, rfl, HS, HO, HB⟩ := hrel
    by_cases hlt : i < s.size
    · have t1 : decide ((i : Int) < (s.size : Int)) = true := decide_eq_true (by omega)
      have t2 : decide (i < s.size) = true := decide_eq_true hlt
      have t3 : (i : Int) < (s.size : Int) := by omega
      have HI := Aside.mk hlt
      have ei := i1 (show i < 4611686018427387904 by omega)
      have HSN := Aside.mk (sp_snoc 32 (s.data.toList.take i) (s[i]'hlt))
      rw [← take_snoc s i hlt] at HSN
      by_cases h32 : (s[i]'hlt).toNat = 32
      · have he : s[i]'hlt = 32 := UInt8.toNat_inj.1 h32
        have q1 : (((s[i]'hlt).toNat : Int) == 32) = true := by rw [beq_iff_eq]; omega
        have q2 : ((s[i]'hlt).toNat == 32) = true := by rw [beq_iff_eq]; omega
        have HW := Aside.mk (show sp 32 (s.data.toList.take (i + 1)) = (out ++ [word]) ++ [[]] by rw [HSN.out, if_pos he, HS.out.1])
        have HLIM := Aside.mk (show out.length ≤ 1000000 by have := HS.out.2.2; omega)
        clear he h32 HSN hi
        go_wp2_with ((with_reducible refine gate_builtin (b := .append) (xs := #[.tmp 16, .tmp 18]) rfl ?_); at_builtin; refine Kd.R_append Kd.string (w0 := w) w.heap.size rfl (.tmp 16) (.tmp 18) 23 9 (.string ByteArray.empty) 16 rfl Tryd.underlying23 info9 rfl (by decide) (by omega) u3 (out.map bs) (bs word) [.string (bs word)] (fun _ => True) (fun _ => False) rfl rfl ?aP (fun _ hk => hk.elim) ?aF ?aO ?aB ?aS ?aL ?_; (case aP => exact rfl); (case aB => exact HB.out); (case aF => exact (fun _ _ => trivial)); (case aO => exact HO.out); (case aS => exact HB.out.size); (case aL => have := HLIM.out; simp; omega); intro vN wN hoN hbN hgN hatN; have HON := Aside.mk hoN; have HBN := Aside.mk hbN; have HGN := Aside.mk hgN; clear hoN hbN hgN hatN)
        go_roundw
        case rel => exact ⟨i + 1, out ++ [word], [], HI.out, by first | rfl | simp, rfl, ⟨HW.out, Nat.zero_le _, by have := HS.out.2.2; simp; omega⟩, ⟨by unfold Own; rw [List.map_append]; exact HON.out⟩, HBN⟩
        case measure =>
          have := HI.out
          have e9 : ((i : Int) + 1).toNat = i + 1 := by omega
          simp only [intOf, e9, Int.toNat_natCast]
          omega
      · have hne : s[i]'hlt ≠ 32 := fun e => h32 (by rw [e]; rfl)
        have q1 : (((s[i]'hlt).toNat : Int) == 32) = false := by rw [beq_eq_false_iff_ne]; omega
        have q2 : ((s[i]'hlt).toNat == 32) = false := by rw [beq_eq_false_iff_ne]; omega
        have HW := Aside.mk (show sp 32 (s.data.toList.take (i + 1)) = out ++ [word ++ [s[i]'hlt]] by
          rw [HSN.out, if_neg hne]
          simp only [HS.out.1, List.dropLast_concat, List.getLast_concat])
        have hsl : ∀ W : World, _ := slice_txt s i (i + 1) (by omega) (by omega) (A := (i : Int)) (B := (i : Int) + 1) rfl (by omega)
        rw [drop_one s i hlt] at hsl
        have hcat : ¬ 9223372036854775807 < (bs word).size + (bs [s[i]'hlt]).size := by
          rw [bs_size, bs_size]; have := HS.out.2.1; simp only [List.length_cons, List.length_nil]; omega
        have HAP := Aside.mk (bs_append word [s[i]'hlt])
        clear hne h32 HSN hi
        generalize bs [s[i]'hlt] = c1 at *
        go_wp2
        go_roundw
        case rel => exact ⟨i + 1, out, word ++ [s[i]'hlt], HI.out, by first | rfl | simp, by rw [← HAP.out], ⟨HW.out, by have := HS.out.2.1; simp; omega, by have := HS.out.2.2; omega⟩, HO, HB⟩
        case measure =>
          have := HI.out
          have e9 : ((i : Int) + 1).toNat = i + 1 := by omega
          simp only [intOf, e9, Int.toNat_natCast]
          omega
    · have t1 : decide ((i : Int) < (s.size : Int)) = false := decide_eq_false (by omega)
      have t2 : decide (i < s.size) = false := decide_eq_false hlt
      obtain rfl : i = s.size := by omega
      have HSA := Aside.mk (show sp 32 s.data.toList = out ++ [word] by
        have := HS.out.1
        rwa [List.take_of_length_le (by rw [Array.length_toList]; exact Nat.le_refl _)] at this)
      have HLIM := Aside.mk (show out.length ≤ 1000000 by have := HS.out.2.2; omega)
      clear hlt hi
      by_cases he : s.data.toList = []
      · have q1 : (!s.toList.isEmpty) = false := by rw [Lib.toList_data, he]; rfl
        have HE := Aside.mk he
        have HO2 := Aside.mk (show out = [] by
          have := HSA.out
          rw [he] at this
          simp only [sp] at this
          have h2 := congrArg List.length this
          simp only [List.length_append, List.length_cons, List.length_nil] at h2
          exact List.eq_nil_of_length_eq_zero (by omega))
        clear he
        go_wp2
        go_ret
        exact ⟨_, rfl, by unfold wordsOf; rw [if_pos HE.out]; have := HO.out; rwa [HO2.out] at this, HB.out⟩
      · have q1 : (!s.toList.isEmpty) = true := by rw [Lib.toList_data]; cases hd : s.data.toList with
          | nil => exact absurd hd he
          | cons a l => rfl
        have HE := Aside.mk he
        clear he
        go_wp2_with ((with_reducible refine gate_builtin (b := .append) (xs := #[.tmp 29, .tmp 31]) rfl ?_); at_builtin; refine Kd.R_append Kd.string (w0 := w) w.heap.size rfl (.tmp 29) (.tmp 31) 23 9 (.string ByteArray.empty) 16 rfl Tryd.underlying23 info9 rfl (by decide) (by omega) u3 (out.map bs) (bs word) [.string (bs word)] (fun _ => True) (fun _ => False) rfl rfl ?aP (fun _ hk => hk.elim) ?aF ?aO ?aB ?aS ?aL ?_; (case aP => exact rfl); (case aB => exact HB.out); (case aF => exact (fun _ _ => trivial)); (case aO => exact HO.out); (case aS => exact HB.out.size); (case aL => have := HLIM.out; simp; omega); intro vN wN hoN hbN hgN hatN; have HON := Aside.mk hoN; have HBN := Aside.mk hbN; have HGN := Aside.mk hgN; clear hoN hbN hgN hatN)
        go_ret
        exact ⟨_, rfl, by unfold wordsOf; rw [if_neg HE.out, HSA.out]; unfold Own; rw [List.map_append]; exact HON.out, HBN.out⟩
end Go.Proofs.YtabcdcnnamflfaaDoor.Wd
