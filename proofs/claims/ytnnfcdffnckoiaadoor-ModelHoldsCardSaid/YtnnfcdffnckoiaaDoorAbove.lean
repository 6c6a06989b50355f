/- graph.above: those above a consumer, by a function that climbs and calls itself through a variable. -/
import Derived.Test.YtnnfcdffnckoiaaDoorQGp
import Derived.Test.YtnnfcdffnckoiaaDoorReach
import Derived.LoopTactic
import Derived.Outline
import Derived.Laws.EntriesVeiled
set_option linter.unusedVariables false
set_option linter.unusedSimpArgs false
set_option maxRecDepth 100000
namespace Go.Proofs.YtnnfcdffnckoiaaDoor.Graph
open Go.RowKit Go.Proofs.YtnnfcdffnckoiaaDoorW.PrintWords Go.Proofs.YtnnfcdffnckoiaaDoorW.PrintLast
theorem inG (i : Int) (w : World) (h0 : 0 ≤ i) (h1 : i < 64) : Calls Tryd.prog 126 #[.int .i64 i] w fun e w' => e = .returned (.bool true) ∧ w = w' := by
  go_enter Tryd.func126, Tryd.ntmps126
  go_wp2
  go_ret
  exact ⟨rfl, rfl⟩
theorem hasB : ∀ m, m < 64 → ∀ u, u < 6 → (Go.bits .and .u64 ((m : Nat) / 2 ^ u : Int) 1 == 1) = m.testBit u := by decide +kernel
theorem withB : ∀ m, m < 64 → ∀ u, u < 6 → Go.bits .or .u64 (m : Nat) (IntKind.u64.wrap (2 ^ u)) = ((m ||| 2 ^ u : Nat) : Int) := by decide +kernel
theorem hasG (m u : Nat) (w : World) (hm : m < 64) (hu : u < 6) : Calls Tryd.prog 125 #[.int .u64 m, .int .i64 u] w fun e w' => e = .returned (.bool (m.testBit u)) ∧ w = w' := by
  have H := Aside0.mk (hasB m hm u hu)
  go_enter Tryd.func125, Tryd.ntmps125
  go_wp2_with (go_at_call 126; refine (inG _ _ (by omega) (by omega)).mono ?_; rintro e w' ⟨rfl, rfl⟩)
  go_ret
  exact ⟨by rw [← H.out]; rfl, rfl⟩
theorem withG (m u : Nat) (w : World) (hm : m < 64) (hu : u < 6) : Calls Tryd.prog 132 #[.int .u64 m, .int .i64 u] w fun e w' => e = .returned (.int .u64 ((m ||| 2 ^ u : Nat) : Int)) ∧ w = w' := by
  have H := Aside0.mk (withB m hm u hu)
  go_enter Tryd.func132, Tryd.ntmps132
  go_wp2_with (go_at_call 126; refine (inG _ _ (by omega) (by omega)).mono ?_; rintro e w' ⟨rfl, rfl⟩)
  go_ret
  exact ⟨by rw [← H.out]; rfl, rfl⟩
/-- What climbing finds in memory: the lists, the set, and itself. -/
structure Sees (w0 w : World) (A : Option Addr) (C : Nat) (up : List (List Int)) (bu bm bc m : Nat) : Prop where
  B : Below w0.heap.size w0 w
  hu : w.cell? ⟨bu, 0, none⟩ = some (.slice A up.length C)
  hm : w.heap[bm]? = some (.cells #[.int .u64 m] 107 (0, 0))
  hc : w.cell? ⟨bc, 0, none⟩ = some (.func (.func 133) #[] #[.pointer (some ⟨bu, 0, none⟩), .pointer (some ⟨bm, 0, none⟩), .pointer (some ⟨bc, 0, none⟩)])
  lm : w0.heap.size ≤ bm
  um : bu ≠ bm
  cm : bc ≠ bm
theorem row_at {t : TypeId} {w : World} {A : Option Addr} {n : Nat} {xs : List (List Int)} (h : Kd.C (Kd.slice t (Kd.int .i64)) w A n xs) (i : Nat) (hi : i < n) :
    ∃ ad A0 c0, A = some ad ∧ w.cell? (ad.add i) = some (.slice A0 (xs.getD i []).length c0) ∧ (xs.getD i []).length ≤ c0 ∧ (Kd.int .i64).C w A0 (xs.getD i []).length (xs.getD i []) := by
  obtain ⟨ad, c, e, _, hK, hc0⟩ := Kd.C_get h ([] : List Int) (i : Int) (by omega) (by omega)
  have hc : ∀ j u, c[j]? = some u → w.cell? (ad.add ((i : Int).toNat * 1 + j)) = some u := hc0
  obtain ⟨A0, c0, rfl, l0, g0⟩ := hK
  exact ⟨ad, A0, c0, e, by have hq := hc 0 _ rfl; rwa [Nat.mul_one, Nat.add_zero, Int.toNat_natCast] at hq, l0, g0⟩
theorem num_at {w : World} {A : Option Addr} {n : Nat} {xs : List Int} (h : (Kd.int .i64).C w A n xs) (i : Nat) (hi : i < n) (hx : i < xs.length) : ∃ ad, A = some ad ∧ w.cell? (ad.add i) = some (.int .i64 xs[i]) := by
  obtain ⟨ad, e, hc⟩ := Kd.at_int h (i : Int) (by omega) (by omega)
  rw [show rd xs (i : Int) = xs[i] by simp [rd, hx], Int.toNat_natCast] at hc
  exact ⟨ad, e, hc⟩
theorem Sees.met {w0 w : World} {A : Option Addr} {C : Nat} {up : List (List Int)} {bu bm bc m : Nat} (h : Sees w0 w A C up bu bm bc m) : w.cell? ⟨bm, 0, none⟩ = some (.int .u64 m) ∧ w.frozen? ⟨bm, 0, none⟩ = false := by
  have e := h.hm
  constructor
  · simp [World.cell?, e]
  · simp [World.frozen?, e]
theorem Sees.put {w0 w : World} {A : Option Addr} {C : Nat} {up : List (List Int)} {bu bm bc m : Nat} (h : Sees w0 w A C up bu bm bc m) (m' : Nat) : Sees w0 (w.setCell ⟨bm, 0, none⟩ (.int .u64 m')) A C up bu bm bc m' := by
  have e := h.hm
  have hk : ∀ k, k ≠ bm → (w.setCell ⟨bm, 0, none⟩ (.int .u64 m')).heap[k]? = w.heap[k]? := fun k hk => Below.heap_setCell w ⟨bm, 0, none⟩ _ k hk
  refine ⟨h.B.setCell h.lm _, ?_, ?_, ?_, h.lm, h.um, h.cm⟩
  · rw [← h.hu]; simp only [World.cell?, hk bu h.um]
  · exact blk_put e 0 _ rfl
  · rw [← h.hc]; simp only [World.cell?, hk bc h.cm]
set_option maxHeartbeats 2000000 in
theorem climb (w0 : World) (A : Option Addr) (C : Nat) (up : List (List Int)) (hg : GoodUp up) (bu bm bc : Nat) (hr : Kd.C (Kd.slice 3 (Kd.int .i64)) w0 A up.length up) :
    ∀ (d m c : Nat) (w : World), left m = d → m < 64 → c < up.length → Sees w0 w A C up bu bm bc m →
      Calls Tryd.prog 133 #[.int .i64 c, .pointer (some ⟨bu, 0, none⟩), .pointer (some ⟨bm, 0, none⟩), .pointer (some ⟨bc, 0, none⟩)] w fun e w' => e = .returned (.tuple #[]) ∧ ∃ m', Sees w0 w' A C up bu bm bc m' ∧ Climbed up c m m' := by
  intro d
  induction d using Nat.strongRecOn with
  | ind d ih =>
    intro m c w hd hm hc hs
    have hu := hs.hu
    obtain ⟨ad, A0, c0, rfl, hrow, hl0, hnum⟩ := row_at hr c hc
    have hlt0 : ∀ u ∈ up.getD c [], 0 ≤ u ∧ u < 6 := fun u hu => by
      rw [List.getD_eq_getElem?_getD, List.getElem?_eq_getElem hc] at hu
      have := hg.2 _ (List.getElem_mem hc) u hu
      have := hg.1
      omega
    obtain ⟨l, hL⟩ : ∃ l, up.getD c [] = l := ⟨_, rfl⟩
    rw [hL] at hrow hl0 hnum hlt0
    have hln := Kd.C_max hnum
    have hroww : w.cell? (ad.add c) = some (.slice A0 l.length c0) := by rw [← hrow]; exact hs.B.cell (World.block_lt_of_cell? _ _ hrow)
    have IH := Aside0.mk ih
    have HD := Aside0.mk hd
    have HS := Aside0.mk hs
    have HN := Aside0.mk hnum
    have HG := Aside0.mk hg
    have HR := Aside0.mk hr
    have HL := Aside0.mk hL
    have HLT := Aside0.mk hlt0
    have hc1 : (c : Int) < (up.length : Int) := by omega
    clear ih hd hs hnum hg hr hrow hL hlt0
    go_enter Tryd.func133, Tryd.ntmps133
    go_wp2_with fail
    clear hu hroww
    go_loopw [12] (fun v wr => ∃ (i mi : Nat), i ≤ l.length ∧ v = .int .i64 i ∧ Sees w0 wr (some ad) C up bu bm bc mi ∧ Mid up c i m mi) (fun v _ => l.length - (intOf v).toNat)
    case atStart => exact ⟨0, m, Nat.zero_le _, rfl, HS.out, Mid.start up c m hm⟩
    case round =>
      obtain ⟨i, mi, hi, rfl, hsee, hmid⟩ := hrel
      have HM := Aside0.mk hmid
      have HE := Aside0.mk hsee
      by_cases hlt : i < l.length
      · obtain ⟨a0, rfl, hx⟩ := num_at HN.out i hlt hlt
        have hxw : wr.cell? (a0.add i) = some (.int .i64 l[i]) := by rw [← hx]; exact hsee.B.cell (World.block_lt_of_cell? _ _ hx)
        have hb6 := HLT.out _ (List.getElem_mem hlt)
        obtain ⟨v, hv⟩ : ∃ v : Nat, l[i] = (v : Int) := ⟨l[i].toNat, by omega⟩
        rw [hv] at hxw hb6
        have hv6 : v < 6 := by omega
        have hmi := hmid.lt
        have HV := Aside0.mk hv
        have HI := Aside0.mk hlt
        have t1 : (i : Int) < (l.length : Int) := by omega
        obtain ⟨hmc, hmf⟩ := hsee.met
        have hcc := hsee.hc
        clear hx hv hmid hsee hb6
        cases hb : mi.testBit v with
        | true =>
          have HB := Aside0.mk hb
          go_wp2_with (first | (go_at_call 125; refine (hasG _ _ _ hmi hv6).mono ?_; rintro e w' ⟨rfl, rfl⟩))
          go_roundw
          case rel => exact ⟨i + 1, mi, by omega, by go_num, HE.out, HM.out.met (by rw [HL.out]; exact HI.out) (by simp only [HL.out]; exact HV.out) HB.out⟩
          case measure => simp [intOf]; omega
        | false =>
          have HB := Aside0.mk hb
          have hvl : v < up.length := by
            have h1 := HL.out
            have h2 := HLT.out _ (List.getElem_mem HI.out)
            have : edge up c v = true := by rw [edge_mem, HL.out, ← HV.out]; exact List.getElem_mem HI.out
            exact (edge_lt HG.out this).2
          have HLF := Aside0.mk (left_lt mi hmi v hv6 hb)
          have HP := Aside0.mk (HE.out.put (mi ||| 2 ^ v))
          have hcc2 := HP.out.hc
          go_wp2_with (first | (go_at_call 125; refine (hasG _ _ _ hmi hv6).mono ?_; rintro e w' ⟨rfl, rfl⟩) | (go_at_call 132; refine (withG _ _ _ hmi hv6).mono ?_; rintro e w' ⟨rfl, rfl⟩))
          refine (IH.out (left (mi ||| 2 ^ v)) (by rw [← HD.out]; exact Nat.lt_of_lt_of_le HLF.out (left_le HM.out.old)) _ v _ rfl (or_lt mi hmi v hv6) hvl HP.out).mono ?_
          rintro e w2 ⟨rfl, m2, hs2, hk2⟩
          have HS2 := Aside0.mk hs2
          have HK2 := Aside0.mk hk2
          clear hs2 hk2
          go_wp2
          go_roundw
          case rel => exact ⟨i + 1, m2, by omega, by go_num, HS2.out, HM.out.new (by rw [HL.out]; exact HI.out) (by simp only [HL.out]; exact HV.out) HB.out HK2.out⟩
          case measure => simp [intOf]; omega
      · have t1 : decide ((i : Int) < (l.length : Int)) = false := decide_eq_false (by omega)
        have hil : i = l.length := by omega
        have HIL := Aside0.mk hil
        clear hil
        go_wp2
        go_end0
        exact ⟨rfl, mi, HE.out, by have := HM.out; rw [HIL.out, ← HL.out] at this; exact this⟩
theorem three (w : World) (o1 o2 o3 : Obj) : (((w.alloc o1).alloc o2).alloc o3).heap[w.heap.size]? = some o1 ∧ (((w.alloc o1).alloc o2).alloc o3).heap[w.heap.size + 1]? = some o2 ∧ (((w.alloc o1).alloc o2).alloc o3).heap[w.heap.size + 1 + 1]? = some o3 := by
  have s1 : (w.alloc o1).heap.size = w.heap.size + 1 := by simp
  have s2 : ((w.alloc o1).alloc o2).heap.size = w.heap.size + 1 + 1 := by simp
  have e1 := heap_alloc_new w o1
  have e2 := heap_alloc_new (w.alloc o1) o2
  have e3 := heap_alloc_new ((w.alloc o1).alloc o2) o3
  rw [s1] at e2
  rw [s2] at e3
  have b2 := (Below.refl (w.alloc o1).heap.size (w.alloc o1)).alloc (Nat.le_refl _) o2
  have b3 := (Below.refl ((w.alloc o1).alloc o2).heap.size ((w.alloc o1).alloc o2)).alloc (Nat.le_refl _) o3
  exact ⟨((b3.block _ (by omega)).trans (b2.block _ (by omega))).trans e1, (b3.block _ (by omega)).trans e2, e3⟩
theorem below_three (w : World) (o1 o2 o3 : Obj) : Below w.heap.size w (((w.alloc o1).alloc o2).alloc o3) :=
  (((Below.refl w.heap.size w).alloc (Nat.le_refl _) _).alloc (by simp) _).alloc (by simp; omega) _
theorem Sees.start (w : World) (A : Option Addr) (C : Nat) (up : List (List Int)) :
    Sees w (((w.alloc (.cells #[.slice A up.length C] 23)).alloc (.cells #[.int .u64 0] 107)).alloc (.cells #[.func (.func 133) #[] #[.pointer (some ⟨w.heap.size, 0, none⟩), .pointer (some ⟨w.heap.size + 1, 0, none⟩), .pointer (some ⟨w.heap.size + 1 + 1, 0, none⟩)]] 144))
      A C up w.heap.size (w.heap.size + 1) (w.heap.size + 1 + 1) 0 := by
  obtain ⟨h1, h2, h3⟩ := three w (.cells #[.slice A up.length C] 23) (.cells #[.int .u64 0] 107) (.cells #[.func (.func 133) #[] #[.pointer (some ⟨w.heap.size, 0, none⟩), .pointer (some ⟨w.heap.size + 1, 0, none⟩), .pointer (some ⟨w.heap.size + 1 + 1, 0, none⟩)]] 144)
  refine ⟨below_three _ _ _ _, ?_, h2, ?_, by omega, by omega, by omega⟩
  · simp only [World.cell?, h1]; rfl
  · simp only [World.cell?, h3]; rfl
set_option maxHeartbeats 2000000 in
theorem above (w : World) (A : Option Addr) (C : Nat) (up : List (List Int)) (hg : GoodUp up) (c : Nat) (hc : c < up.length) (hr : Kd.C (Kd.slice 3 (Kd.int .i64)) w A up.length up) :
    Calls Tryd.prog 124 #[.slice A up.length C, .int .i64 c] w fun e w' => e = .returned (.int .u64 (aboveN up c)) ∧ Below w.heap.size w w' := by
  have HG := Aside0.mk hg
  have HR := Aside0.mk hr
  have HC := Aside0.mk hc
  clear hg hr hc
  go_enter Tryd.func124, Tryd.ntmps124
  go_wp2_with fail
  refine (climb w A C up HG.out _ _ _ HR.out _ 0 c _ rfl (by decide) HC.out (Sees.start w A C up)).mono ?_
  rintro e w2 ⟨rfl, m2, hs2, hk2⟩
  have HB := Aside0.mk hs2.B
  have hm := hs2.met.1
  have HK := Aside0.mk (climbed_above HG.out hk2)
  clear hk2 hs2
  go_wp2
  go_ret
  exact ⟨by rw [← HK.out]; rfl, HB.out⟩
end Go.Proofs.YtnnfcdffnckoiaaDoor.Graph
namespace Go.Proofs.YtnnfcdffnckoiaaDoor.QGc
open Go.RowKit Go.Proofs.YtnnfcdffnckoiaaDoorW.PrintWords Go.Proofs.YtnnfcdffnckoiaaDoor.Graph
def graph_above.f (l0 : List (List Int)) (a1 : Int) : Option Int := if GoodUp l0 ∧ 0 ≤ a1 ∧ a1 < l0.length then some (aboveN l0 a1.toNat : Int) else none
theorem graph_above.calls (A0 : Option Addr) (c0 : Nat) (l0 : List (List Int)) (a1 : Int) (r : Int) (w : World) (hr0 : Kd.C (Kd.slice 3 (Kd.int .i64)) w A0 l0.length l0) (hc0 : l0.length ≤ c0) (h : graph_above.f l0 a1 = some r) :
    Calls Tryd.prog 124 #[.slice A0 l0.length c0, .int .i64 a1] w fun e w' => e = .returned (.int .u64 r) ∧ Below w.heap.size w w' := by
  unfold graph_above.f at h
  split at h
  · rename_i hx
    obtain rfl := Option.some.inj h
    have := above w A0 c0 l0 hx.1 a1.toNat (by omega) hr0
    rwa [show ((a1.toNat : Nat) : Int) = a1 by omega] at this
  · exact absurd h (by simp)
end Go.Proofs.YtnnfcdffnckoiaaDoor.QGc
