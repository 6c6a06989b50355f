/- The walk of sakialaw09.GraphOrder: for every input the call returns true, and what was in memory stays. Asked: the library's table lies as laid. -/
import Derived.Test.YtkakgmpcenfjlaaDoorGOrd2
import Derived.Test.YtkakgmpcenfjlaaDoorGClimbs
import Derived.Test.YtkakgmpcenfjlaaDoorTabCheck
import Derived.Deep.RegionHeld3
set_option linter.unusedVariables false
set_option linter.unusedSimpArgs false
set_option maxRecDepth 100000
namespace Go.Proofs.YtkakgmpcenfjlaaDoor.Graph
open Go.RowKit Go.Proofs.YtkakgmpcenfjlaaDoorW.PrintWords Go.Proofs.YtkakgmpcenfjlaaDoorW.PrintLast
theorem depth_edge {up : List (List Int)} (h : Fine up) {c u : Nat} (e : edge up c u = true) : depth up u < depth up c := by
  rw [depth_rec h c]
  have := (depL_ge (f := depth up) (up.getD c []) 0).2 (u : Int) (edge_mem.1 e)
  rw [Int.toNat_natCast] at this
  unfold depL; omega
theorem depth_reach {up : List (List Int)} (h : Fine up) {c u : Nat} (e : Reach up c u) : depth up u < depth up c := by
  induction e with
  | one e => exact depth_edge h e
  | more e _ ih => have := depth_edge h e; omega
theorem Srt.at {f : Nat → Nat} {n : Nat} {L : List Nat} (h : Srt f n L) {i : Nat} (hi : i < L.length) : L[i] < n := (h.mem _).1 (List.getElem_mem hi)
theorem cast_at (L : List Nat) (i : Nat) (h : i < (L.map fun (x : Nat) => (x : Int)).length) : (L.map fun (x : Nat) => (x : Int))[i] = ((L[i]'(by simpa using h) : Nat) : Int) := by simp
theorem Srt.before {up : List (List Int)} {L : List Nat} (hf : Fine up) (h : Srt (depth up) up.length L) {i u : Nat} (hi : i < L.length) (hr : reachB up L[i] u = true) : ((L.map fun (x : Nat) => (x : Int)).take i).contains (u : Int) = true := by
  have hr' := (reachB_iff hf.good).1 hr
  have hu := (reach_lt hf.good hr').2
  obtain ⟨j, hj, e⟩ := List.mem_iff_getElem.1 ((h.mem u).2 hu)
  have hd := depth_reach hf hr'
  have hji : j < i := by
    rcases Nat.lt_or_ge j i with h1 | h1
    · exact h1
    · exfalso
      by_cases e2 : i = j
      · subst e2; rw [e] at hd; omega
      · have := List.pairwise_iff_getElem.1 h.pw i j hi hj (by omega)
        rw [e] at this
        rcases this with h | h <;> omega
  rw [List.contains_iff_mem, ← List.map_take]
  refine List.mem_map.2 ⟨u, ?_, rfl⟩
  rw [← e]
  exact List.mem_take_iff_getElem.2 ⟨j, by omega, rfl⟩
theorem Srt.fresh {f : Nat → Nat} {n : Nat} {L : List Nat} (h : Srt f n L) {i : Nat} (hi : i < L.length) : ((L.map fun (x : Nat) => (x : Int)).take i).contains ((L[i] : Nat) : Int) = false := by
  cases hc : ((L.map fun (x : Nat) => (x : Int)).take i).contains ((L[i] : Nat) : Int) with
  | false => rfl
  | true =>
    exfalso
    rw [List.contains_iff_mem, ← List.map_take] at hc
    obtain ⟨y, hy, e⟩ := List.mem_map.1 hc
    have e : y = L[i] := by omega
    subst e
    obtain ⟨j, hj, e⟩ := List.mem_take_iff_getElem.1 hy
    have := List.pairwise_iff_getElem.1 h.pw j i (by omega) hi (by omega)
    rw [e] at this
    rcases this with h | h <;> omega
/-- Above whoever is no root there is one. -/
theorem root_over {up : List (List Int)} (h : Fine up) : ∀ (k c : Nat), rank up c ≤ k → c < up.length → (up.getD c []).isEmpty = true ∨ ∃ r, r < up.length ∧ (up.getD r []).isEmpty = true ∧ reachB up c r = true := by
  intro k
  induction k with
  | zero =>
    intro c hk hc
    refine .inl ?_
    cases hr : up.getD c [] with
    | nil => rfl
    | cons u l => have := rank_lt h (mem_row h (show u ∈ up.getD c [] by rw [hr]; simp)); omega
  | succ k ih =>
    intro c hk hc
    cases hr : up.getD c [] with
    | nil => exact .inl rfl
    | cons u l =>
      have e := mem_row h (show u ∈ up.getD c [] by rw [hr]; simp)
      refine .inr ?_
      rcases ih u.toNat (by have := rank_lt h e; omega) (edge_lt h.good e).2 with h1 | ⟨r, h1, h2, h3⟩
      · exact ⟨u.toNat, (edge_lt h.good e).2, h1, (reachB_iff h.good).2 (.one e)⟩
      · exact ⟨r, h1, h2, (reachB_iff h.good).2 (.more e ((reachB_iff h.good).1 h3))⟩
theorem root_met {up : List (List Int)} (h : Fine up) {c : Nat} (hc : c < up.length) : ((rootsI up).contains (c : Int) || (rootsI up).any fun r => reachB up c r.toNat) = true := by
  rcases root_over h (rank up c) c (Nat.le_refl _) hc with h1 | ⟨r, h1, h2, h3⟩
  · rw [Bool.or_eq_true]; left
    exact List.contains_iff_mem.2 (pick_mem.2 ⟨c, hc, h1, rfl⟩)
  · rw [Bool.or_eq_true]; right
    exact List.any_eq_true.2 ⟨(r : Int), pick_mem.2 ⟨r, h1, h2, rfl⟩, by rw [Int.toNat_natCast]; exact h3⟩
theorem ends_at (up : List (List Int)) (j : Nat) (hj : j < (endsI up).length) : ∃ c : Nat, (endsI up)[j] = (c : Int) ∧ c < up.length := by
  obtain ⟨c, h1, h2, _⟩ := pick_at hj; exact ⟨c, h1, h2⟩
theorem roots_at (up : List (List Int)) (j : Nat) (hj : j < (rootsI up).length) : ∃ c : Nat, (rootsI up)[j] = (c : Int) ∧ c < up.length := by
  obtain ⟨c, h1, h2, _⟩ := pick_at hj; exact ⟨c, h1, h2⟩
theorem heldQ {w0 W W' : World} {p q : Addr} {u v : Value} (b : Below W.heap.size W W') (h : W.cell? p = some u ∧ W.cell? q = some v ∧ Below w0.heap.size w0 W) : W'.cell? p = some u ∧ W'.cell? q = some v ∧ Below w0.heap.size w0 W' :=
  ⟨(b.cell (World.block_lt_of_cell? _ _ h.1)).trans h.1, (b.cell (World.block_lt_of_cell? _ _ h.2.1)).trans h.2.1, h.2.2.trans (b.mono h.2.2.size)⟩
/-- Has in a region that draws. -/
theorem hasD {W : World} {A : Option Addr} {C : Nat} {l : List Int} (x : Int) {b : Bool} (hr : Kd.C (Kd.int .i64) W A l.length l) (hc : l.length ≤ C) (hl : l.length ≤ 100) (hb : l.contains x = b) :
    ∀ m, Calls Tryd.prog 18 #[.slice A l.length C, .int .i64 x] (W.drewN m) fun e w' => e = .returned (.bool b) ∧ ∃ m', w' = W.drewN m' := fun m =>
  (hasL (C := C) x (Kd.C_below hr (pw_below_drewN (Below.refl W.heap.size W) m)) hc (by omega)).mono fun e w' ⟨he, hd⟩ => ⟨by rw [he, hb], by obtain ⟨k, rfl⟩ := hd; exact ⟨m + k, by simp [World.drewN, Nat.add_assoc]⟩⟩
theorem has_on {W : World} {A : Option Addr} {C : Nat} {l : List Int} (x : Int) (hr : Rv W A C l) (hl : l.length ≤ 100) :
    Calls Tryd.prog 18 #[.slice A l.length C, .int .i64 x] W fun e w' => e = .returned (.bool (l.contains x)) ∧ Below W.heap.size W w' :=
  (hasL (C := C) x hr.rd hr.cap (by omega)).mono fun e w' ⟨he, hd⟩ => ⟨he, Drawn0.below hd⟩
set_option maxHeartbeats 8000000 in
theorem walkOrder (A : Option Addr) (C : Nat) (up : List (List Int)) (w : World) (hr : Kd.C (Kd.slice 3 (Kd.int .i64)) w A up.length up) (hC : up.length ≤ C) (hT : Tabled w) :
    Calls Tryd.prog 4 #[.slice A up.length C] w fun e w' => e = .returned (.bool true) ∧ Below w.heap.size w w' := by
  obtain ⟨b, hsm, hlong⟩ := long9 hr hC
  have HT := Aside.mk hT
  have HLO := Aside.mk hlong
  clear hT hlong
  cases b with
  | true =>
    go_enter Tryd.func4, Tryd.ntmps4
    go_wp2_with (go_at_call 7; refine HLO.out.mono ?_; rintro e w' ⟨rfl, hb⟩; have HB9 := Aside.mk hb; clear hb)
    go_wp2_with (go_at_call 9; refine (live9 _ (HT.out.below HB9.out)).mono ?_; rintro e W40 ⟨rfl, hb40⟩; have HB40 := Aside.mk (HB9.out.trans (hb40.mono HB9.out.size)); clear hb40)
    go_ret
    exact ⟨rfl, HB40.out⟩
  | false =>
    have HG := Aside.mk (Gv.mk hr hC (hsm rfl))
    clear hsm hr hC
    by_cases h0 : checkG up = 0
    rotate_left
    · have hz : (checkG up != 0) = true := by simpa using h0
      clear h0
      go_enter Tryd.func4, Tryd.ntmps4
      go_wp2_with fail
      refine HLO.out.mono ?_
      rintro e w0 ⟨rfl, hb0⟩
      have HB0 := Aside.mk hb0
      clear hb0
      go_wp2_with fail
      refine (check8 (HG.out.below HB0.out)).mono ?_
      rintro e w1 ⟨rfl, hb⟩
      have HB1 := Aside.mk (HB0.out.trans (hb.mono HB0.out.size))
      clear hb
      go_wp2_with (go_at_call 9; refine (live9 _ (HT.out.below HB1.out)).mono ?_; rintro e W40 ⟨rfl, hb40⟩; have HB40 := Aside.mk (HB1.out.trans (hb40.mono HB1.out.size)); clear hb40)
      go_ret
      exact ⟨rfl, HB40.out⟩
    · have hz : (checkG up != 0) = false := by simpa using h0
      have H0 := Aside.mk h0
      have HF := Aside.mk (fine_of h0)
      clear h0
      go_enter Tryd.func4, Tryd.ntmps4
      go_wp2_with fail
      refine HLO.out.mono ?_
      rintro e w0 ⟨rfl, hb0⟩
      have HB0 := Aside.mk hb0
      clear hb0
      go_wp2_with fail
      refine (check8 (HG.out.below HB0.out)).mono ?_
      rintro e w1 ⟨rfl, hb⟩
      have HB1 := Aside.mk (HB0.out.trans (hb.mono HB0.out.size))
      clear hb
      go_wp2_with fail
      refine (order_ok (HG.out.below HB1.out) H0.out (HT.out.below HB1.out)).mono ?_
      rintro e W2 ⟨Al, cl, L, rfl, hL, hRl, hb⟩
      have HB2 := Aside.mk (HB1.out.trans (hb.mono HB1.out.size))
      have HL := Aside.mk hL
      have HRL := Aside.mk hRl
      have HLL := Aside.mk (show (L.map fun (x : Nat) => (x : Int)).length = up.length by rw [List.length_map, hL.len])
      have HAT := Aside.mk (fun i (hi : i < (L.map fun (x : Nat) => (x : Int)).length) => (⟨L[i]'(by simpa using hi), cast_at L i hi, hL.at (by simpa using hi), hL.fresh (by simpa using hi), fun u hu => hL.before HF.out (by simpa using hi) hu⟩ : ∃ c : Nat, (L.map fun (x : Nat) => (x : Int))[i] = (c : Int) ∧ c < up.length ∧ ((L.map fun (x : Nat) => (x : Int)).take i).contains (c : Int) = false ∧ ∀ u, reachB up c u = true → ((L.map fun (x : Nat) => (x : Int)).take i).contains (u : Int) = true))
      clear hb hL hRl HB0 HB1 HLO HL
      generalize (L.map fun (x : Nat) => (x : Int)) = l at *
      have hq1 : ((l.length : Int) != (up.length : Int)) = false := by rw [HLL.out]; simp
      have hq2 : (l.length != up.length) = false := by rw [HLL.out]; simp
      go_wp2_with fail
      clear hq1 hq2 hz
      go_loopw [4] (fun x wr => ∃ i : Nat, i ≤ l.length ∧ x = .int .i64 i ∧ Aside (Rv wr Al cl l) ∧ Aside (Below w.heap.size w wr)) (fun x _ => l.length - (intOf x).toNat)
      case atStart => exact ⟨0, Nat.zero_le _, rfl, HRL, HB2⟩
      case round =>
        clear HB2 HRL
        obtain ⟨i, hi, rfl, HR, HB⟩ := hrel
        by_cases hlt : i < l.length
        · have t1 : decide ((i : Int) < (l.length : Int)) = true := decide_eq_true (by omega)
          have t2 : decide (i < l.length) = true := decide_eq_true hlt
          have t3 : (i : Int) < (l.length : Int) := by omega
          have HI := Aside.mk hlt
          obtain ⟨c, hc, hcl, hfr, hbe⟩ := HAT.out i hlt
          obtain ⟨al, rfl, hx⟩ := num_at HR.out.rd i hlt hlt
          rw [hc] at hx
          have HX := Aside.mk hx
          have HCL := Aside.mk hcl
          have HFR := Aside.mk hfr
          have HBE := Aside.mk hbe
          have ei := i1 (show i < 4611686018427387904 by have := HF.out.n6; have := HLL.out; omega)
          clear hi hlt hc hcl hfr hbe
          go_wp2_with fail
          clear hx
          refine (above_ok (HG.out.below HB.out) c H0.out HCL.out).mono ?_
          rintro e W5 ⟨rfl, hb⟩
          have HB5 := Aside.mk (HB.out.trans (hb.mono HB.out.size))
          have HR5 := Aside.mk (HR.out.below hb)
          have HX5 := Aside.mk ((hb.cell (World.block_lt_of_cell? _ _ HX.out)).trans HX.out)
          clear hb
          go_wp2_with fail
          refine (list_calls (aboveN up c) (aboveN_lt up c) _ (HT.out.below HB5.out)).mono ?_
          rintro e W7 ⟨A7, c7, rfl, h71, h72, hb⟩
          have HB7 := Aside.mk (HB5.out.trans (hb.mono HB5.out.size))
          have HR7 := Aside.mk (HR5.out.below hb)
          have HX7 := Aside.mk ((hb.cell (World.block_lt_of_cell? _ _ HX5.out)).trans HX5.out)
          have HA7 := Aside.mk (Rv.mk h72 h71)
          have HAA := Aside.mk (fun j (hj : j < (memI (aboveN up c)).length) => mem_above HF.out hj)
          have HML := Aside.mk (memI_len (aboveN up c))
          clear hb h71 h72 HB5 HB HR5 HR HX HX5
          generalize memI (aboveN up c) = a at *
          go_wp2_with fail
          clear t1 t2 t3
          go_loopw [6] (fun x wr => ∃ k : Nat, k ≤ a.length ∧ x = .int .i64 k ∧ Aside (Rv wr (some al) cl l) ∧ Aside (Rv wr A7 c7 a) ∧ Aside (wr.cell? (al.add i) = some (.int .i64 c)) ∧ Aside (Below w.heap.size w wr)) (fun x _ => a.length - (intOf x).toNat)
          case atStart => exact ⟨0, Nat.zero_le _, rfl, HR7, HA7, HX7, HB7⟩
          case round =>
            clear HR7 HA7 HX7 HB7
            obtain ⟨k, hk, rfl, HR, HA, HX, HB⟩ := hrel
            have hic : (i : Int) ≤ (cl : Int) := by have := HI.out; have := HR.out.cap; omega
            have hic2 : i ≤ cl := by omega
            have HTL := Aside.mk (show (l.take i).length = i by rw [List.length_take]; have := HI.out; omega)
            by_cases hlt : k < a.length
            · have t1 : decide ((k : Int) < (a.length : Int)) = true := decide_eq_true (by omega)
              have t2 : decide (k < a.length) = true := decide_eq_true hlt
              have t3 : (k : Int) < (a.length : Int) := by omega
              have HK := Aside.mk hlt
              obtain ⟨u, hu, hul, hur⟩ := HAA.out k hlt
              obtain ⟨a0, rfl, hx⟩ := num_at HA.out.rd k hlt hlt
              rw [hu] at hx
              have HC := Aside.mk (hasD (C := cl) (u : Int) (Kd.C_take HR.out.rd (Nat.le_of_lt HI.out)) (by rw [HTL.out]; omega) (by rw [HTL.out]; have := HI.out; have := HLL.out; have := HF.out.n6; omega) (HBE.out u hur))
              rw [HTL.out] at HC
              have ek := i1 (show k < 4611686018427387904 by have := HML.out; omega)
              clear hk hlt hu hul hur
              go_wp2_with fail
              go_quiet ((go_at_call 18; with_reducible exact HC.out _))
              generalize hW : World.drewN wr _ = w5
              have hb5 := Aside.mk (show Below wr.heap.size wr w5 from hW ▸ pw_below_drewN (Below.refl _ _) _)
              clear hW
              go_wp2
              go_roundw
              case rel => exact ⟨k + 1, HK.out, by first | rfl | simp, ⟨HR.out.below hb5.out⟩, ⟨HA.out.below hb5.out⟩, ⟨(hb5.out.cell (World.block_lt_of_cell? _ _ HX.out)).trans HX.out⟩, ⟨HB.out.trans (hb5.out.mono HB.out.size)⟩⟩
              case measure =>
                have := HK.out
                have e9 : ((k : Int) + 1).toNat = k + 1 := by omega
                simp only [intOf, e9, Int.toNat_natCast]
                omega
            · have t1 : decide ((k : Int) < (a.length : Int)) = false := decide_eq_false (by omega)
              have t2 : decide (k < a.length) = false := decide_eq_false hlt
              have t4 : (i : Int) < (l.length : Int) := by have := HI.out; omega
              have hx := HX.out
              have HC := Aside.mk (hasD (C := cl) (c : Int) (Kd.C_take HR.out.rd (Nat.le_of_lt HI.out)) (by rw [HTL.out]; omega) (by rw [HTL.out]; have := HI.out; have := HLL.out; have := HF.out.n6; omega) HFR.out)
              rw [HTL.out] at HC
              clear hlt hk
              go_wp2_with fail
              go_quiet ((go_at_call 18; with_reducible exact HC.out _))
              generalize hW : World.drewN wr _ = w5
              have hb5 := Aside.mk (show Below wr.heap.size wr w5 from hW ▸ pw_below_drewN (Below.refl _ _) _)
              clear hW
              go_wp2
              go_roundw
              case rel => exact ⟨i + 1, HI.out, by first | rfl | simp, ⟨HR.out.below hb5.out⟩, ⟨HB.out.trans (hb5.out.mono HB.out.size)⟩⟩
              case measure =>
                have := HI.out
                have e9 : ((i : Int) + 1).toNat = i + 1 := by omega
                simp only [intOf, e9, Int.toNat_natCast]
                omega
        · have t1 : decide ((i : Int) < (l.length : Int)) = false := decide_eq_false (by omega)
          have t2 : decide (i < l.length) = false := decide_eq_false hlt
          clear hlt hi
          go_wp2_with fail
          refine (ends_ok (HG.out.below HB.out) H0.out (HT.out.below HB.out)).mono ?_
          rintro e W3 ⟨A3, c3, rfl, h31, h32, hb⟩
          have HB3 := Aside.mk (HB.out.trans (hb.mono HB.out.size))
          have HE3 := Aside.mk (Rv.mk h32 h31)
          clear hb h31 h32 HB HR
          go_wp2_with fail
          refine (roots_ok (HG.out.below HB3.out) H0.out).mono ?_
          rintro e W4 ⟨A4, c4, rfl, h41, h42, hb⟩
          have HB4 := Aside.mk (HB3.out.trans (hb.mono HB3.out.size))
          have HE4 := Aside.mk (HE3.out.below hb)
          have HR4 := Aside.mk (Rv.mk h42 h41)
          clear hb h41 h42 HB3 HE3
          have HEL := Aside.mk (show (endsI up).length ≤ 6 from Nat.le_trans (pick_len _ _) HF.out.n6)
          have HRL := Aside.mk (show (rootsI up).length ≤ 6 from Nat.le_trans (pick_len _ _) HF.out.n6)
          have HEA := Aside.mk (ends_at up)
          have HRA := Aside.mk (roots_at up)
          have HMT := Aside.mk (fun c (hc : c < up.length) => root_met HF.out hc)
          generalize endsI up = es at *
          generalize rootsI up = rs at *
          go_wp2_with fail
          clear t1 t2
          go_loopw [9] (fun x wr => ∃ i : Nat, i ≤ es.length ∧ x = .int .i64 i ∧ Aside (Rv wr A3 c3 es) ∧ Aside (Rv wr A4 c4 rs) ∧ Aside (Below w.heap.size w wr)) (fun x _ => es.length - (intOf x).toNat)
          case atStart => exact ⟨0, Nat.zero_le _, rfl, HE4, HR4, HB4⟩
          case round =>
            clear HE4 HR4 HB4
            obtain ⟨i, hi, rfl, HE, HR, HB⟩ := hrel
            by_cases hlt : i < es.length
            · have t1 : decide ((i : Int) < (es.length : Int)) = true := decide_eq_true (by omega)
              have t2 : decide (i < es.length) = true := decide_eq_true hlt
              have t3 : (i : Int) < (es.length : Int) := by omega
              have HI := Aside.mk hlt
              obtain ⟨c, hc, hcl⟩ := HEA.out i hlt
              obtain ⟨ae, rfl, hx⟩ := num_at HE.out.rd i hlt hlt
              rw [hc] at hx
              have HX := Aside.mk hx
              have HCL := Aside.mk hcl
              have ei := i1 (show i < 4611686018427387904 by have := HEL.out; omega)
              clear hi hlt hc hcl
              go_wp2_with fail
              clear hx
              refine (has_on (c : Int) HR.out (by have := HRL.out; omega)).mono ?_
              rintro e W5 ⟨rfl, hb⟩
              have HB5 := Aside.mk (HB.out.trans (hb.mono HB.out.size))
              have HE5 := Aside.mk (HE.out.below hb)
              have HR5 := Aside.mk (HR.out.below hb)
              have HX5 := Aside.mk ((hb.cell (World.block_lt_of_cell? _ _ HX.out)).trans HX.out)
              clear hb HB HE HR HX
              go_wp2_with fail
              go_loopw [10, 11] (fun y x wr => ∃ (j : Nat) (b : Bool), j ≤ rs.length ∧ x = .int .i64 j ∧ y = .bool b ∧ Aside (b = (rs.contains (c : Int) || (rs.take j).any fun r => reachB up c r.toNat)) ∧ Aside (Rv wr (some ae) c3 es) ∧ Aside (Rv wr A4 c4 rs) ∧ Aside (wr.cell? (ae.add i) = some (.int .i64 c)) ∧ Aside (Below w.heap.size w wr)) (fun _ x _ => rs.length - (intOf x).toNat)
              case atStart => exact ⟨0, _, Nat.zero_le _, rfl, rfl, ⟨by simp⟩, HE5, HR5, HX5, HB5⟩
              case round =>
                clear HE5 HR5 HX5 HB5
                obtain ⟨j, b, hj, rfl, rfl, HBB, HE, HR, HX, HB⟩ := hrel
                by_cases hlt : j < rs.length
                · have t4 : decide ((j : Int) < (rs.length : Int)) = true := decide_eq_true (by omega)
                  have t5 : decide (j < rs.length) = true := decide_eq_true hlt
                  have t6 : (j : Int) < (rs.length : Int) := by omega
                  have HJ := Aside.mk hlt
                  obtain ⟨r, hr, hrl⟩ := HRA.out j hlt
                  obtain ⟨ar, rfl, hy⟩ := num_at HR.out.rd j hlt hlt
                  rw [hr] at hy
                  have HR6 := Aside.mk (show r < 6 by have := HF.out.n6; omega)
                  have ej := i1 (show j < 4611686018427387904 by have := HRL.out; omega)
                  have HNX := Aside.mk (show (rs.contains (c : Int) || (rs.take (j + 1)).any fun r => reachB up c r.toNat) = (b || reachB up c r) by
                    rw [HBB.out, List.take_succ_eq_append_getElem hlt, List.any_append, hr, Bool.or_assoc]; simp)
                  clear hj hlt hr hrl
                  have hx := HX.out
                  cases b with
                  | true =>
                    go_wp2_with fail
                    go_quiet (fail)
                    generalize hW : World.drewN wr _ = w5
                    have hb5 := Aside.mk (show Below wr.heap.size wr w5 from hW ▸ pw_below_drewN (Below.refl _ _) _)
                    clear hW
                    go_wp2
                    go_roundw
                    case rel => exact ⟨j + 1, true, HJ.out, by first | rfl | simp, rfl, ⟨by rw [HNX.out]; rfl⟩, ⟨HE.out.below hb5.out⟩, ⟨HR.out.below hb5.out⟩, ⟨(hb5.out.cell (World.block_lt_of_cell? _ _ HX.out)).trans HX.out⟩, ⟨HB.out.trans (hb5.out.mono HB.out.size)⟩⟩
                    case measure =>
                      have := HJ.out
                      have e9 : ((j : Int) + 1).toNat = j + 1 := by omega
                      simp only [intOf, e9, Int.toNat_natCast]
                      omega
                  | false =>
                    have HAB := Aside.mk (fun W' (hh : Below wr.heap.size wr W') => above_ok (HG.out.below (HB.out.trans (hh.mono HB.out.size))) c H0.out HCL.out)
                    have HHA := Aside.mk (fun W' => hasG (aboveN up c) r W' (aboveN_lt up c) HR6.out)
                    rw [aboveN_bit, decide_eq_true HR6.out, Bool.true_and] at HHA
                    have hHD := heldQ (Below.refl wr.heap.size wr).drew ⟨hx, hy, Below.refl wr.heap.size wr⟩
                    go_wp2_with fail
                    go_region_held3 (fun w' => w'.cell? (ae.add i) = some (.int .i64 c) ∧ w'.cell? (ar.add j) = some (.int .i64 r) ∧ Below wr.heap.size wr w') (first | exact hHD | exact heldQ (by assumption) (by assumption))
                      (first | (go_at_call 12; refine (HAB.out _ (And.right (And.right (by assumption)))).mono ?_; rintro e w' ⟨rfl, b⟩) | (go_at_call 13; refine (HHA.out _).mono ?_; rintro e w' ⟨rfl, rfl⟩))
                    have hb5 : Below wr.heap.size wr _ := And.right (And.right (by assumption))
                    go_wp2
                    go_roundw
                    case rel => exact ⟨j + 1, reachB up c r, HJ.out, by first | rfl | simp, rfl, ⟨by rw [HNX.out]; rfl⟩, ⟨HE.out.below hb5⟩, ⟨HR.out.below hb5⟩, ⟨(hb5.cell (World.block_lt_of_cell? _ _ HX.out)).trans HX.out⟩, ⟨HB.out.trans (hb5.mono HB.out.size)⟩⟩
                    case measure =>
                      have := HJ.out
                      have e9 : ((j : Int) + 1).toNat = j + 1 := by omega
                      simp only [intOf, e9, Int.toNat_natCast]
                      omega
                · have t4 : decide ((j : Int) < (rs.length : Int)) = false := decide_eq_false (by omega)
                  have t5 : decide (j < rs.length) = false := decide_eq_false hlt
                  obtain rfl : j = rs.length := by omega
                  obtain rfl : b = true := by have := HBB.out; rw [List.take_length, HMT.out c HCL.out] at this; exact this
                  clear hlt hj
                  go_wp2
                  go_roundw
                  case rel => exact ⟨i + 1, HI.out, by first | rfl | simp, HE, HR, HB⟩
                  case measure =>
                    have := HI.out
                    have e9 : ((i : Int) + 1).toNat = i + 1 := by omega
                    simp only [intOf, e9, Int.toNat_natCast]
                    omega
            · have t1 : decide ((i : Int) < (es.length : Int)) = false := decide_eq_false (by omega)
              have t2 : decide (i < es.length) = false := decide_eq_false hlt
              clear hlt hi
              go_wp2_with (go_at_call 9; refine (live9 _ (HT.out.below HB.out)).mono ?_; rintro e W40 ⟨rfl, hb40⟩; have HB40 := Aside.mk (HB.out.trans (hb40.mono HB.out.size)); clear hb40)
              go_ret
              exact ⟨rfl, HB40.out⟩
end Go.Proofs.YtkakgmpcenfjlaaDoor.Graph
