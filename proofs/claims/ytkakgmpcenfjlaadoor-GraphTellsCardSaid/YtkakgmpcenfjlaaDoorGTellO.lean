/- sakiaref09's Ends and Order walked; their lists are package graph's. -/
import Derived.Test.YtkakgmpcenfjlaaDoorGTellD
set_option linter.unusedVariables false
set_option linter.unusedSimpArgs false
set_option maxRecDepth 100000
namespace Go.Proofs.YtkakgmpcenfjlaaDoor.Graph
open Go.RowKit Go.Proofs.YtkakgmpcenfjlaaDoorW.PrintWords Go.Proofs.YtkakgmpcenfjlaaDoorW.PrintLast
/-! ### ends -/
def bare (up : List (List Int)) (i : Nat) : Bool := (pick (fun x => reachB up x i) up.length).isEmpty
theorem last_edge {up : List (List Int)} {a b : Nat} (h : Reach up a b) : ∃ m, edge up m b = true := by
  induction h with
  | one e => exact ⟨_, e⟩
  | more _ _ ih => exact ih
theorem bare_named {up : List (List Int)} (h : Fine up) (i : Nat) : bare up i = !namedB up up.length i := by
  cases hn : namedB up up.length i with
  | true =>
    obtain ⟨r, hr, he⟩ := List.any_eq_true.1 hn
    have : pick (fun x => reachB up x i) up.length ≠ [] := fun e => by
      have := pick_nil.1 e r (List.mem_range.1 hr)
      rw [(reachB_iff h.good).2 (.one he)] at this
      exact absurd this (by decide)
    unfold bare
    rw [Bool.eq_false_iff.2 (fun e => this (List.isEmpty_iff.1 e))]; rfl
  | false =>
    have : pick (fun x => reachB up x i) up.length = [] := pick_nil.2 fun c hc => by
      cases hr : reachB up c i with
      | false => rfl
      | true =>
        obtain ⟨m, hm⟩ := last_edge ((reachB_iff h.good).1 hr)
        have : ((List.range up.length).any fun r => edge up r i) = true := List.any_eq_true.2 ⟨m, List.mem_range.2 (edge_lt h.good hm).1, hm⟩
        unfold namedB at hn
        rw [hn] at this; exact absurd this (by decide)
    unfold bare
    rw [this]; rfl
theorem bare_ends {up : List (List Int)} (h : Fine up) : pick (bare up) up.length = endsI up := pick_congr fun x _ => bare_named h x
set_option maxHeartbeats 4000000 in
theorem ref_ends {w : World} {A : Option Addr} {C : Nat} {up : List (List Int)} (h : Gv w A C up) (hf : Fine up) :
    Calls Tryd.prog 22 #[.slice A up.length C] w fun e w' => ∃ A' c', e = .returned (.slice A' (endsI up).length c') ∧ Rv w' A' c' (endsI up) ∧ Below w.heap.size w w' := by
  rw [← bare_ends hf]
  have HF := Aside.mk hf
  have HG := Aside.mk h
  have HB0 := Aside.mk (Below.refl w.heap.size w)
  clear hf h
  go_enter Tryd.func22, Tryd.ntmps22
  go_wp2_with fail
  go_loopw [3, 4] (fun v x wr => ∃ i : Nat, i ≤ up.length ∧ x = .int .i64 i ∧ Aside (Kd.R (Kd.int .i64) 3 wr w.heap.size (fun _ => True) v (pick (bare up) i)) ∧ Aside (Below w.heap.size w wr)) (fun _ x _ => up.length - (intOf x).toNat)
  case atStart => exact ⟨0, Nat.zero_le _, rfl, ⟨Kd.R_nil _ _ _ _ _⟩, HB0⟩
  case round =>
    clear HB0
    obtain ⟨i, hi, rfl, HO, HB⟩ := hrel
    by_cases hlt : i < up.length
    · have t1 : decide ((i : Int) < (up.length : Int)) = true := decide_eq_true (by omega)
      have t2 : decide (i < up.length) = true := decide_eq_true hlt
      have HI := Aside.mk hlt
      have HP := Aside.mk (show pick (bare up) (i + 1) = pick (bare up) i ++ (if bare up i = true then [(i : Int)] else []) from pick_succ _ _)
      have ew := i1 (show i < 4611686018427387904 by have := HF.out.n6; omega)
      clear hlt hi
      go_wp2_with fail
      refine (ref_below (HG.out.below HB.out) HF.out i HI.out).mono ?_
      rintro e W5 ⟨A5, c5, rfl, _, hb5⟩
      have HB5 := Aside.mk (HB.out.trans (hb5.mono HB.out.size))
      have HO5 := Aside.mk (Kd.R_below HO.out hb5)
      clear hb5 HB HO
      have HQ := Aside.mk (show bare up i = (pick (fun x => reachB up x i) up.length).isEmpty from rfl)
      generalize pick (fun x => reachB up x i) up.length = l at HQ ⊢
      by_cases he : l.length = 0
      · have t4 : ((l.length : Int) == 0) = true := by simpa using he
        have HP2 := Aside.mk (show bare up i = true by rw [HQ.out, List.isEmpty_iff]; exact List.eq_nil_of_length_eq_zero he)
        clear he
        go_wp2_with ((with_reducible refine gate_builtin (b := .append) (xs := #[.tmp 16, .tmp 18]) rfl ?_); at_builtin; refine Kd.R_append (Kd.int .i64) (w0 := w) w.heap.size rfl (.tmp 16) (.tmp 18) 27 3 (.int .i64 0) 8 rfl Tryd.underlying27 info3 rfl (by decide) (by omega) u3 (pick (bare up) i) (i : Int) [.int .i64 (i : Int)] (fun _ => True) (fun _ => False) rfl rfl ?aP (fun _ hk => hk.elim) ?aF ?aO ?aB ?aS ?aL ?_; (case aP => exact rfl); (case aB => exact HB5.out); (case aF => exact (fun _ _ => trivial)); (case aO => exact HO5.out); (case aS => exact HB5.out.size); (case aL => have := HI.out; have := HF.out.n6; have := pick_len (bare up) i; omega); intro vN wN hoN hbN hgN hatN; have HON := Aside.mk hoN; have HBN := Aside.mk hbN; have HGN := Aside.mk hgN; clear hoN hbN hgN hatN)
        go_roundw
        case rel => exact ⟨i + 1, HI.out, by first | rfl | simp, ⟨by rw [HP.out, if_pos HP2.out]; exact HON.out⟩, HBN⟩
        case measure => have := HI.out; have e9 : ((i : Int) + 1).toNat = i + 1 := (by omega); simp only [intOf, e9, Int.toNat_natCast]; omega
      · have t4 : ((l.length : Int) == 0) = false := by simpa using he
        have HP2 := Aside.mk (show ¬ bare up i = true by rw [HQ.out, List.isEmpty_iff]; intro e; rw [e] at he; exact he rfl)
        clear he
        go_wp2
        go_roundw
        case rel => exact ⟨i + 1, HI.out, by first | rfl | simp, ⟨by rw [HP.out, if_neg HP2.out, List.append_nil]; exact HO5.out⟩, HB5⟩
        case measure => have := HI.out; have e9 : ((i : Int) + 1).toNat = i + 1 := (by omega); simp only [intOf, e9, Int.toNat_natCast]; omega
    · have t1 : decide ((i : Int) < (up.length : Int)) = false := decide_eq_false (by omega)
      have t2 : decide (i < up.length) = false := decide_eq_false hlt
      obtain rfl : i = up.length := by omega
      clear hlt hi
      go_wp2
      go_ret
      obtain ⟨A', c', rfl, h1, h2⟩ := Kd.R_reads HO.out
      exact ⟨A', c', rfl, ⟨h2, h1⟩, HB.out⟩
/-! ### order -/
def ordI (up : List (List Int)) : Nat → List Int
  | 0 => []
  | k + 1 => ordI up k ++ pick (fun c => depth up c == k) up.length
def ordN (up : List (List Int)) : Nat → List Nat
  | 0 => []
  | k + 1 => ordN up k ++ (List.range up.length).filter (fun c => depth up c == k)
theorem ordI_map (up : List (List Int)) : ∀ k, ordI up k = (ordN up k).map fun (x : Nat) => (x : Int)
  | 0 => rfl
  | k + 1 => by unfold ordI ordN; rw [ordI_map up k, List.map_append]; rfl
theorem ordI_len (up : List (List Int)) : ∀ k, (ordI up k).length ≤ k * up.length
  | 0 => by simp [ordI]
  | k + 1 => by
    unfold ordI
    rw [List.length_append, Nat.succ_mul]
    exact Nat.add_le_add (ordI_len up k) (pick_len _ _)
theorem ordN_mem (up : List (List Int)) : ∀ k x, x ∈ ordN up k ↔ x < up.length ∧ depth up x < k
  | 0, x => by simp [ordN]
  | k + 1, x => by
    unfold ordN
    rw [List.mem_append, ordN_mem up k x, List.mem_filter, List.mem_range, beq_iff_eq]
    omega
theorem ordN_pw (up : List (List Int)) : ∀ k, (ordN up k).Pairwise (Lx (depth up))
  | 0 => by simp [ordN]
  | k + 1 => by
    unfold ordN
    refine List.pairwise_append.2 ⟨ordN_pw up k, ?_, fun a ha b hb => ?_⟩
    · refine List.Pairwise.imp_of_mem (R := (· < ·)) (fun {a b} ha hb h => ?_) (List.Pairwise.sublist (List.filter_sublist ..) List.pairwise_lt_range)
      have h1 := (List.mem_filter.1 ha).2
      have h2 := (List.mem_filter.1 hb).2
      rw [beq_iff_eq] at h1 h2
      exact .inr ⟨by omega, h⟩
    · have h1 := (ordN_mem up k a).1 ha
      have h2 := (List.mem_filter.1 hb).2
      rw [beq_iff_eq] at h2
      exact .inl (by omega)
theorem lx_asym {f : Nat → Nat} {a b : Nat} (h : Lx f a b) (k : Lx f b a) : False := by rcases h with h | h <;> rcases k with k | k <;> omega
theorem sorted_eq {f : Nat → Nat} : ∀ (l m : List Nat), l.Pairwise (Lx f) → m.Pairwise (Lx f) → (∀ x, x ∈ l ↔ x ∈ m) → l = m
  | [], [], _, _, _ => rfl
  | [], b :: m, _, _, h => absurd ((h b).2 (List.mem_cons_self ..)) (by simp)
  | a :: l, [], _, _, h => absurd ((h a).1 (List.mem_cons_self ..)) (by simp)
  | a :: l, b :: m, hl, hm, h => by
    have h1 := List.pairwise_cons.1 hl
    have h2 := List.pairwise_cons.1 hm
    have e : a = b := by
      rcases List.mem_cons.1 ((h a).1 (List.mem_cons_self ..)) with e | e
      · exact e
      · rcases List.mem_cons.1 ((h b).2 (List.mem_cons_self ..)) with e2 | e2
        · exact e2.symm
        · exact (lx_asym (h1.1 b e2) (h2.1 a e)).elim
    subst e
    rw [sorted_eq l m h1.2 h2.2 (fun x => ⟨fun hx => by
      rcases List.mem_cons.1 ((h x).1 (List.mem_cons_of_mem _ hx)) with e | e
      · subst e; exact (lx_asym (h1.1 x hx) (h1.1 x hx)).elim
      · exact e, fun hx => by
      rcases List.mem_cons.1 ((h x).2 (List.mem_cons_of_mem _ hx)) with e | e
      · subst e; exact (lx_asym (h2.1 x hx) (h2.1 x hx)).elim
      · exact e⟩)]
theorem order_eq {up : List (List Int)} (hf : Fine up) {L : List Nat} (h : Srt (depth up) up.length L) : (L.map fun (x : Nat) => (x : Int)) = ordI up 6 := by
  rw [ordI_map, sorted_eq L (ordN up 6) h.pw (ordN_pw up 6) (fun x => by
    rw [h.mem, ordN_mem]
    exact ⟨fun hx => ⟨hx, by have := depth_five hf hx; omega⟩, fun hx => hx.1⟩)]
set_option maxHeartbeats 4000000 in
theorem ref_order {w : World} {A : Option Addr} {C : Nat} {up : List (List Int)} (h : Gv w A C up) (hf : Fine up) :
    Calls Tryd.prog 23 #[.slice A up.length C] w fun e w' => ∃ A' c', e = .returned (.slice A' (ordI up 6).length c') ∧ Rv w' A' c' (ordI up 6) ∧ Below w.heap.size w w' := by
  have HF := Aside.mk hf
  have HG := Aside.mk h
  have HB0 := Aside.mk (Below.refl w.heap.size w)
  clear hf h
  go_enter Tryd.func23, Tryd.ntmps23
  go_wp2_with fail
  go_loopw [3, 4] (fun v x wr => ∃ i : Nat, i ≤ 6 ∧ x = .int .i64 i ∧ Aside (Kd.R (Kd.int .i64) 3 wr w.heap.size (fun _ => True) v (ordI up i)) ∧ Aside (Below w.heap.size w wr)) (fun _ x _ => 6 - (intOf x).toNat)
  case atStart => exact ⟨0, by omega, rfl, ⟨Kd.R_nil _ _ _ _ _⟩, HB0⟩
  case round =>
    clear HB0
    obtain ⟨k, hk, rfl, HO, HB⟩ := hrel
    by_cases hlt : k < 6
    · have t1 : decide ((k : Int) < 6) = true := decide_eq_true (by omega)
      have t2 : decide (k < 6) = true := decide_eq_true hlt
      have HK := Aside.mk hlt
      have ek := i1 (show k < 4611686018427387904 by omega)
      have HLEN := Aside.mk (show (ordI up k).length ≤ 36 by have := ordI_len up k; have := HF.out.n6; have : k * up.length ≤ 6 * 6 := Nat.mul_le_mul (by omega) (by omega); omega)
      clear hk hlt
      go_wp2_with fail
      clear t1 t2
      go_loopw [3, 5] (fun v x wr => ∃ i : Nat, i ≤ up.length ∧ x = .int .i64 i ∧ Aside (Kd.R (Kd.int .i64) 3 wr w.heap.size (fun _ => True) v (ordI up k ++ pick (fun c => depth up c == k) i)) ∧ Aside (Below w.heap.size w wr)) (fun _ x _ => up.length - (intOf x).toNat)
      case atStart => exact ⟨0, Nat.zero_le _, rfl, ⟨by have := HO.out; simpa [pick] using this⟩, HB⟩
      case round =>
        clear HO HB
        obtain ⟨i, hi, rfl, HO, HB⟩ := hrel
        by_cases hlt : i < up.length
        · have t1 : decide ((i : Int) < (up.length : Int)) = true := decide_eq_true (by omega)
          have t2 : decide (i < up.length) = true := decide_eq_true hlt
          have HI := Aside.mk hlt
          have HP := Aside.mk (show pick (fun c => depth up c == k) (i + 1) = pick (fun c => depth up c == k) i ++ (if (depth up i == k) = true then [(i : Int)] else []) from pick_succ _ _)
          have ew := i1 (show i < 4611686018427387904 by have := HF.out.n6; omega)
          clear hlt hi
          go_wp2_with fail
          refine (ref_depth (HG.out.below HB.out) HF.out i HI.out).mono ?_
          rintro e W5 ⟨rfl, hb5⟩
          have HB5 := Aside.mk (HB.out.trans (hb5.mono HB.out.size))
          have HO5 := Aside.mk (Kd.R_below HO.out hb5)
          clear hb5 HB HO
          by_cases he : depth up i = k
          · have t4 : (((depth up i : Nat) : Int) == (k : Int)) = true := by rw [beq_iff_eq]; omega
            have t5 : (depth up i == k) = true := by simpa using he
            rw [t5, if_pos rfl] at HP
            clear he
            go_wp2_with ((with_reducible refine gate_builtin (b := .append) (xs := #[.tmp 21, .tmp 23]) rfl ?_); at_builtin; refine Kd.R_append (Kd.int .i64) (w0 := w) w.heap.size rfl (.tmp 21) (.tmp 23) 27 3 (.int .i64 0) 8 rfl Tryd.underlying27 info3 rfl (by decide) (by omega) u3 (ordI up k ++ pick (fun c => depth up c == k) i) (i : Int) [.int .i64 (i : Int)] (fun _ => True) (fun _ => False) rfl rfl ?aP (fun _ hk => hk.elim) ?aF ?aO ?aB ?aS ?aL ?_; (case aP => exact rfl); (case aB => exact HB5.out); (case aF => exact (fun _ _ => trivial)); (case aO => exact HO5.out); (case aS => exact HB5.out.size); (case aL => have := HI.out; have := HF.out.n6; have := pick_len (fun c => depth up c == k) i; have := HLEN.out; rw [List.length_append]; omega); intro vN wN hoN hbN hgN hatN; have HON := Aside.mk hoN; have HBN := Aside.mk hbN; have HGN := Aside.mk hgN; clear hoN hbN hgN hatN)
            go_roundw
            case rel => exact ⟨i + 1, HI.out, by first | rfl | simp, ⟨by rw [HP.out, ← List.append_assoc]; exact HON.out⟩, HBN⟩
            case measure => have := HI.out; have e9 : ((i : Int) + 1).toNat = i + 1 := (by omega); simp only [intOf, e9, Int.toNat_natCast]; omega
          · have t4 : (((depth up i : Nat) : Int) == (k : Int)) = false := by rw [beq_eq_false_iff_ne]; omega
            have t5 : (depth up i == k) = false := by simpa using he
            rw [t5, if_neg (by decide), List.append_nil] at HP
            clear he
            go_wp2
            go_roundw
            case rel => exact ⟨i + 1, HI.out, by first | rfl | simp, ⟨by rw [HP.out]; exact HO5.out⟩, HB5⟩
            case measure => have := HI.out; have e9 : ((i : Int) + 1).toNat = i + 1 := (by omega); simp only [intOf, e9, Int.toNat_natCast]; omega
        · have t1 : decide ((i : Int) < (up.length : Int)) = false := decide_eq_false (by omega)
          have t2 : decide (i < up.length) = false := decide_eq_false hlt
          obtain rfl : i = up.length := by omega
          clear hlt hi
          go_wp2
          go_roundw
          case rel => exact ⟨k + 1, HK.out, by first | rfl | simp, HO, HB⟩
          case measure =>
            have := HK.out
            have e9 : ((k : Int) + 1).toNat = k + 1 := by omega
            simp only [intOf, e9, Int.toNat_natCast]
            omega
    · have t1 : decide ((k : Int) < 6) = false := decide_eq_false (by omega)
      have t2 : decide (k < 6) = false := decide_eq_false hlt
      obtain rfl : k = 6 := by omega
      clear hlt hk
      go_wp2
      go_ret
      obtain ⟨A', c', rfl, h1, h2⟩ := Kd.R_reads HO.out
      exact ⟨A', c', rfl, ⟨h2, h1⟩, HB.out⟩
end Go.Proofs.YtkakgmpcenfjlaaDoor.Graph
