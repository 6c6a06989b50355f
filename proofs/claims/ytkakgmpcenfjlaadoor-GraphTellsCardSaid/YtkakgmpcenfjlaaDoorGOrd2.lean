/- graph.Order walked: its row is the numbers of the consumers, sorted by depth. -/
import Derived.Test.YtkakgmpcenfjlaaDoorGOrd
set_option linter.unusedVariables false
set_option linter.unusedSimpArgs false
set_option maxRecDepth 100000
namespace Go.Proofs.YtkakgmpcenfjlaaDoor.Graph
open Go.RowKit Go.Proofs.YtkakgmpcenfjlaaDoorW.PrintWords Go.Proofs.YtkakgmpcenfjlaaDoorW.PrintLast
theorem rowN_reads {W : World} {g : Nat} {L : List Nat} (h : RowN W g L) (hl : L.length ≤ 100) : Kd.C (Kd.int .i64) W (some ⟨g, 0, none⟩) (L.map fun (x : Nat) => (x : Int)).length (L.map fun (x : Nat) => (x : Int)) :=
  ⟨rfl, by simp; omega, fun _ => ⟨_, rfl, fun j p hp => ⟨[.int .i64 p], rfl, rfl, fun i u hu => by
    obtain ⟨rfl, rfl⟩ : i = 0 ∧ .int .i64 p = u := by cases i with
      | zero => simpa using hu
      | succ i => simp at hu
    rw [List.getElem?_map] at hp
    obtain ⟨y, hy, rfl⟩ := Option.map_eq_some_iff.1 hp
    obtain ⟨hj, rfl⟩ := List.getElem?_eq_some_iff.1 hy
    rw [add_plain]
    simpa [Kd.int, Kd.scalar] using h.cell j hj⟩⟩⟩
set_option maxHeartbeats 4000000 in
theorem sort45 {w0 W : World} {bu g cap : Nat} {A : Option Addr} {C : Nat} {up : List (List Int)} (hg : Gv w0 A C up) (hf : Fine up) (h : OS w0 W bu g A C up (upto 0 up.length)) :
    Calls Tryd.prog 45 #[.slice (some ⟨g, 0, none⟩) up.length cap, .int .i64 up.length, .func (.func 38) #[] #[.pointer (some ⟨bu, 0, none⟩)]] W fun e w' => e = .returned (.tuple #[]) ∧ ∃ L, Srt (depth up) up.length L ∧ OS w0 w' bu g A C up L := by
  have H := Aside.mk (isort (cap := cap) hg hf h)
  have t1 : decide ((20 : Int) ≤ (up.length : Int)) = false := decide_eq_false (by have := hf.n6; omega)
  have t2 : decide ((20 : Int) < (up.length : Int)) = false := decide_eq_false (by have := hf.n6; omega)
  have t3 : decide (20 ≤ up.length) = false := decide_eq_false (by have := hf.n6; omega)
  have t4 : decide (20 < up.length) = false := decide_eq_false (by have := hf.n6; omega)
  have u1 : ¬ (20 ≤ up.length) := by have := hf.n6; omega
  have u2 : ¬ (20 < up.length) := by have := hf.n6; omega
  clear hg h hf
  go_enter Tryd.func45, Tryd.ntmps45
  go_wp2_with fail
  go_loopw [7, 8] (fun x y wr => x = .int .i64 0 ∧ y = .int .i64 20 ∧ wr = W) (fun x _ _ => 0)
  case atStart => exact ⟨rfl, rfl, rfl⟩
  case round =>
    obtain ⟨rfl, rfl, rfl⟩ := hrel
    go_wp2_with fail
    refine H.out.mono ?_
    rintro e w' ⟨rfl, L, hL, hO⟩
    have HL := Aside.mk hL
    have HO := Aside.mk hO
    clear hL hO
    go_wp2_with fail
    go_loopw [6] (fun x wr => x = .int .i64 20 ∧ wr = w') (fun x _ => 0)
    case atStart => exact ⟨rfl, rfl⟩
    case round =>
      obtain ⟨rfl, rfl⟩ := hrel
      go_wp2
      refine bodyPost_end (v := .tuple #[]) (results_none rfl _ _ _) rfl ?_
      exact ⟨rfl, L, HL.out, HO.out⟩
set_option maxHeartbeats 4000000 in
theorem sort37 {w0 W : World} {bu g cap : Nat} {A : Option Addr} {C : Nat} {up : List (List Int)} (hg : Gv w0 A C up) (hf : Fine up) (h : OS w0 W bu g A C up (upto 0 up.length)) :
    Calls Tryd.prog 37 #[.slice (some ⟨g, 0, none⟩) up.length cap, .func (.func 38) #[] #[.pointer (some ⟨bu, 0, none⟩)]] W fun e w' => e = .returned (.tuple #[]) ∧ ∃ L, Srt (depth up) up.length L ∧ OS w0 w' bu g A C up L := by
  have H := Aside.mk (sort45 (cap := cap) hg hf h)
  clear hg h hf
  go_enter Tryd.func37, Tryd.ntmps37
  go_wp2_with (go_at_call 45; refine H.out.mono ?_; rintro e w' ⟨rfl, hh⟩)
  refine bodyPost_end (v := .tuple #[]) (results_none rfl _ _ _) rfl ?_
  exact ⟨rfl, hh⟩
theorem memF_full : ∀ n, n ≤ 6 → memF (2 ^ n - 1) 0 = upto 0 n := by decide +kernel
theorem full64 : ∀ n, n ≤ 6 → 2 ^ n - 1 < 64 := by decide
theorem upto_len (n : Nat) : (upto 0 n).length = n := by simp [upto]
theorem own_rowN {W : World} {b : Nat} {v : Value} {xs : List Nat} (h : W.ownsRow b 3 1 v xs.length (xs.map fun (x : Nat) => Value.int .i64 (x : Int))) (hp : 0 < xs.length) :
    ∃ g cap, v = .slice (some ⟨g, 0, none⟩) xs.length cap ∧ b ≤ g ∧ xs.length ≤ cap ∧ RowN W g xs := by
  obtain ⟨h1, ⟨_, h2⟩ | ⟨g, cap, cur, rfl, hg, hb, hc, hm, hs, ht⟩⟩ := h
  · omega
  · refine ⟨g, cap, rfl, hg, hc, cur, hb, fun j hj => ?_⟩
    rw [Nat.mul_one] at ht
    have e := congrArg (fun l : List Value => l[j]?) ht
    simp only [List.getElem?_take, hj, if_true, List.getElem?_map, List.getElem?_eq_getElem hj, Option.map_some] at e
    rwa [Array.getElem?_toList] at e
set_option maxHeartbeats 4000000 in
theorem order_ok {w : World} {A : Option Addr} {C : Nat} {up : List (List Int)} (h : Gv w A C up) (hc : checkG up = 0) (hT : Tabled w) :
    Calls Tryd.prog 17 #[.slice A up.length C] w fun e w' => ∃ A' c' L, e = .returned (.slice A' (L.map fun (x : Nat) => (x : Int)).length c') ∧ Srt (depth up) up.length L ∧ Rv w' A' c' (L.map fun (x : Nat) => (x : Int)) ∧ Below w.heap.size w w' := by
  have h1 : (checkG up != 0) = false := by simpa using hc
  have HF := Aside.mk (fine_of hc)
  have H := Aside.mk (fun w' (b : Below w.heap.size w w') => check8 (h.below b))
  have HB0 := Aside.mk (below_alloc_ w (.cells #[.slice A up.length C] 22))
  have HG := Aside.mk h
  have HT := Aside.mk hT
  have HFU := Aside.mk (full up.length HF.out.n6)
  clear hc h hT
  go_enter Tryd.func17, Tryd.ntmps17
  go_wp2_with fail
  have HX := Aside.mk (show (w.alloc (.cells #[.slice A up.length C] 22)).heap[w.heap.size]? = some (.cells #[.slice A up.length C] 22 (0, 0)) from heap_alloc_new w _)
  generalize w.alloc (.cells #[.slice A up.length C] 22) = W1 at HB0 HX ⊢
  have HS1 := Aside.mk (show w.heap.size < W1.heap.size from (Array.getElem?_eq_some_iff.1 HX.out).1)
  refine (H.out _ HB0.out).mono ?_
  rintro e W2 ⟨rfl, hb⟩
  have HB2 := Aside.mk (HB0.out.trans (hb.mono HB0.out.size))
  have HX2 := Aside.mk ((hb.block w.heap.size HS1.out).trans HX.out)
  have HS2 := Aside.mk (show w.heap.size < W2.heap.size from (Array.getElem?_eq_some_iff.1 HX2.out).1)
  have hcell : W2.cell? ⟨w.heap.size, 0, none⟩ = some (.slice A up.length C) := (blk_cell HX2.out 0).trans rfl
  clear hb HX
  go_wp2_with (go_at_call 31; refine (HFU.out _).mono ?_; rintro e w2 ⟨rfl, rfl⟩)
  refine (callsIn_wide.1 (list_in 3 _ (by omega) (full64 _ HF.out.n6) _ (HT.out.below HB2.out))).mono ?_
  rintro e W3 ⟨v, rfl, hrow, hb⟩
  rw [memF_full _ HF.out.n6] at hrow
  obtain ⟨g, cap, rfl, hg1, hg2, hR⟩ := own_rowN hrow (by rw [upto_len]; exact HF.out.n1)
  rw [upto_len] at hg2 ⊢
  have HB3 := Aside.mk (HB2.out.trans (hb.mono HB2.out.size))
  have HO := Aside.mk (OS.mk HB3.out ((hb.block w.heap.size HS2.out).trans HX2.out) hR (Nat.le_trans HB2.out.size hg1) (by have := HS2.out; omega))
  have HC := Aside.mk hg2
  clear hb hrow hg1 hg2 hR hcell
  go_wp2_with fail
  refine (sort37 HG.out HF.out HO.out).mono ?_
  rintro e W4 ⟨rfl, L, hL, hO⟩
  have HL := Aside.mk hL
  have HO4 := Aside.mk hO
  clear hL hO
  go_wp2
  go_ret
  have hlen : (L.map fun (x : Nat) => (x : Int)).length = up.length := by rw [List.length_map, HL.out.len]
  exact ⟨_, _, L, by rw [hlen]; rfl, HL.out, ⟨rowN_reads HO4.out.row (by rw [HL.out.len]; have := HF.out.n6; omega), by rw [hlen]; exact HC.out⟩, HO4.out.B⟩
end Go.Proofs.YtkakgmpcenfjlaaDoor.Graph
