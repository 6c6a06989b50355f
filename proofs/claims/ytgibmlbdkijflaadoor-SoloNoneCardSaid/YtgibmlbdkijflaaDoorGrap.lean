/- Who is above whom, on lists alone: by lengthening (as the document's table is filled), and by climbing. -/
import Derived.Test.YtgibmlbdkijflaaDoorQGp
import Derived.LoopTactic
import Derived.Outline
import Derived.Laws.EntriesVeiled
import Derived.Deep.WholeRow
import Derived.StillTailTactics
import Derived.RegionTactic
set_option linter.unusedVariables false
namespace Go.Proofs.YtgibmlbdkijflaaDoor.Graph
def GoodUp (up : List (List Int)) : Prop := up.length ≤ 6 ∧ ∀ l ∈ up, ∀ u ∈ l, 0 ≤ u ∧ u < up.length
instance (up : List (List Int)) : Decidable (GoodUp up) := by unfold GoodUp; exact inferInstance
def edge (up : List (List Int)) (a b : Nat) : Bool := (up.getD a []).contains (b : Int)
def tab (up : List (List Int)) : Nat → Nat → Nat → Bool
  | 0, a, b => edge up a b
  | k + 1, a, b => tab up k a b || (tab up k a k && tab up k k b)
def reachB (up : List (List Int)) (a b : Nat) : Bool := tab up 6 a b
inductive Reach (up : List (List Int)) : Nat → Nat → Prop where
  | one {a b : Nat} : edge up a b = true → Reach up a b
  | more {a b c : Nat} : edge up a b = true → Reach up b c → Reach up a c
theorem Reach.trans {up : List (List Int)} {a b c : Nat} (h : Reach up a b) (k : Reach up b c) : Reach up a c := by
  induction h with
  | one e => exact .more e k
  | more e _ ih => exact .more e (ih k)
theorem edge_mem {up : List (List Int)} {a b : Nat} : edge up a b = true ↔ (b : Int) ∈ up.getD a [] := by
  unfold edge
  rw [List.contains_iff_mem]
theorem edge_lt {up : List (List Int)} (hg : GoodUp up) {a b : Nat} (h : edge up a b = true) : a < up.length ∧ b < up.length := by
  rw [edge_mem] at h
  by_cases ha : a < up.length
  · rw [List.getD_eq_getElem?_getD, List.getElem?_eq_getElem ha] at h
    have := hg.2 _ (List.getElem_mem ha) _ h
    exact ⟨ha, by omega⟩
  · rw [List.getD_eq_getElem?_getD, List.getElem?_eq_none (by omega)] at h
    simp at h
theorem tab_reach {up : List (List Int)} : ∀ (k a b : Nat), tab up k a b = true → Reach up a b
  | 0, a, b, h => .one h
  | k + 1, a, b, h => by
    unfold tab at h
    simp only [Bool.or_eq_true, Bool.and_eq_true] at h
    rcases h with h | ⟨h1, h2⟩
    · exact tab_reach k a b h
    · exact (tab_reach k a k h1).trans (tab_reach k k b h2)
theorem tab_mono {up : List (List Int)} {k a b : Nat} (h : tab up k a b = true) : tab up (k + 1) a b = true := by
  unfold tab
  rw [h, Bool.true_or]
theorem tab_col {up : List (List Int)} (k a : Nat) : tab up (k + 1) a k = tab up k a k := by
  show (tab up k a k || (tab up k a k && tab up k k k)) = tab up k a k
  cases tab up k a k <;> simp
theorem tab_row {up : List (List Int)} (k b : Nat) : tab up (k + 1) k b = tab up k k b := by
  show (tab up k k b || (tab up k k k && tab up k k b)) = tab up k k b
  cases tab up k k b <;> cases tab up k k k <;> simp
theorem tab_via {up : List (List Int)} : ∀ (k j a b : Nat), j < k → tab up k a j = true → tab up k j b = true → tab up k a b = true
  | 0, j, a, b, h, _, _ => absurd h (by omega)
  | k + 1, j, a, b, h, h1, h2 => by
    by_cases e : j = k
    · subst e
      rw [tab_col] at h1
      rw [tab_row] at h2
      show (tab up j a b || (tab up j a j && tab up j j b)) = true
      rw [h1, h2]; simp
    · have ih := fun a b => tab_via (up := up) k j a b (by omega)
      have ha : tab up k a j = true ∨ (tab up k a k = true ∧ tab up k k j = true) := by
        simpa only [tab, Bool.or_eq_true, Bool.and_eq_true] using h1
      have hb : tab up k j b = true ∨ (tab up k j k = true ∧ tab up k k b = true) := by
        simpa only [tab, Bool.or_eq_true, Bool.and_eq_true] using h2
      show (tab up k a b || (tab up k a k && tab up k k b)) = true
      rcases ha with ha | ⟨ha, ha'⟩ <;> rcases hb with hb | ⟨hb, hb'⟩
      · rw [ih a b ha hb]; rfl
      · rw [ih a k ha hb, hb']; simp
      · rw [ha, ih k b ha' hb]; simp
      · rw [ha, hb']; simp
theorem reach_tab {up : List (List Int)} (hg : GoodUp up) {a b : Nat} (h : Reach up a b) : reachB up a b = true := by
  have one : ∀ k a b, edge up a b = true → tab up k a b = true := by
    intro k
    induction k with
    | zero => exact fun a b h => h
    | succ k ih => exact fun a b h => tab_mono (ih a b h)
  induction h with
  | one e => exact one 6 _ _ e
  | more e _ ih => exact tab_via 6 _ _ _ (by have := (edge_lt hg e).2; have := hg.1; omega) (one 6 _ _ e) ih
theorem reachB_iff {up : List (List Int)} (hg : GoodUp up) {a b : Nat} : reachB up a b = true ↔ Reach up a b := ⟨tab_reach 6 a b, reach_tab hg⟩
theorem reach_lt {up : List (List Int)} (hg : GoodUp up) {a b : Nat} (h : Reach up a b) : a < up.length ∧ b < up.length := by
  induction h with
  | one e => exact edge_lt hg e
  | more e _ ih => exact ⟨(edge_lt hg e).1, ih.2⟩
def mask (p : Nat → Bool) : Nat → Nat
  | 0 => 0
  | n + 1 => mask p n + (if p n then 2 ^ n else 0)
theorem mask_lt (p : Nat → Bool) : ∀ n, mask p n < 2 ^ n
  | 0 => Nat.one_pos
  | n + 1 => by
    have := mask_lt p n
    unfold mask
    rw [Nat.pow_succ]
    split <;> omega
theorem mask_bit (p : Nat → Bool) : ∀ n i, (mask p n).testBit i = (decide (i < n) && p i)
  | 0, i => by simp [mask]
  | n + 1, i => by
    have h := mask_lt p n
    have ih := mask_bit p n i
    unfold mask
    by_cases hp : p n = true
    · rw [if_pos hp, Nat.add_comm]
      rcases Nat.lt_trichotomy i n with e | e | e
      · rw [Nat.testBit_two_pow_add_gt e, ih]
        congr 1
        rw [decide_eq_decide]
        omega
      · subst e
        rw [Nat.testBit_two_pow_add_eq, ih, hp]
        simp
      · rw [Nat.testBit_lt_two_pow (Nat.lt_of_lt_of_le (by rw [Nat.pow_succ]; omega) (Nat.pow_le_pow_right (by decide) (show n + 1 ≤ i from e)))]
        simp; omega
    · rw [if_neg hp, Nat.add_zero, ih]
      by_cases e : i = n
      · subst e; simp [hp]
      · congr 1
        rw [decide_eq_decide]
        omega
def aboveN (up : List (List Int)) (c : Nat) : Nat := mask (reachB up c) 6
theorem aboveN_lt (up : List (List Int)) (c : Nat) : aboveN up c < 64 := mask_lt _ 6
theorem aboveN_bit (up : List (List Int)) (c i : Nat) : (aboveN up c).testBit i = (decide (i < 6) && reachB up c i) := mask_bit _ 6 i
def left (m : Nat) : Nat := (List.range 6).countP fun u => !m.testBit u
theorem left_lt : ∀ m, m < 64 → ∀ u, u < 6 → m.testBit u = false → left (m ||| 2 ^ u) < left m := by decide +kernel
theorem left_le {m m' : Nat} (h : ∀ u, m.testBit u = true → m'.testBit u = true) : left m' ≤ left m := by
  unfold left
  apply List.countP_mono_left
  intro u _ hu
  cases e : m.testBit u with
  | true => rw [h u e] at hu; exact absurd hu (by decide)
  | false => rfl
theorem or_lt : ∀ m, m < 64 → ∀ u, u < 6 → m ||| 2 ^ u < 64 := by decide +kernel
theorem or_bit (m u x : Nat) : (m ||| 2 ^ u).testBit x = (m.testBit x || decide (u = x)) := by
  rw [Nat.testBit_or, Nat.testBit_two_pow]
structure Mid (up : List (List Int)) (c i m m' : Nat) : Prop where
  old : ∀ u, m.testBit u = true → m'.testBit u = true
  named : ∀ u : Nat, (u : Int) ∈ (up.getD c []).take i → m'.testBit u = true
  shut : ∀ x, m'.testBit x = true → m.testBit x = false → Reach up c x ∧ ∀ u, edge up x u = true → m'.testBit u = true
  lt : m' < 64
abbrev Climbed (up : List (List Int)) (c m m' : Nat) : Prop := Mid up c (up.getD c []).length m m'
theorem Climbed.all {up : List (List Int)} {c m m' : Nat} (h : Climbed up c m m') (u : Nat) (e : edge up c u = true) : m'.testBit u = true :=
  h.named u (by rw [List.take_of_length_le (Nat.le_refl _)]; exact edge_mem.1 e)
theorem Mid.start (up : List (List Int)) (c m : Nat) (h : m < 64) : Mid up c 0 m m := ⟨fun _ h => h, fun u h => by simp at h, fun x h k => by rw [h] at k; exact absurd k (by decide), h⟩
theorem mem_take_succ {l : List Int} {i : Nat} (h : i < l.length) {x : Int} (hx : x ∈ l.take (i + 1)) : x ∈ l.take i ∨ x = l[i] := by
  rw [List.take_succ_eq_append_getElem h, List.mem_append, List.mem_singleton] at hx
  exact hx
theorem Mid.met {up : List (List Int)} {c i m m' v : Nat} (h : Mid up c i m m') (hi : i < (up.getD c []).length) (hv : (up.getD c [])[i] = (v : Int)) (hm : m'.testBit v = true) : Mid up c (i + 1) m m' := by
  refine ⟨h.old, fun u hu => ?_, h.shut, h.lt⟩
  rcases mem_take_succ hi hu with hu | hu
  · exact h.named u hu
  · have : u = v := by omega
    subst this
    exact hm
theorem Mid.new {up : List (List Int)} {c i m m' m2 v : Nat} (h : Mid up c i m m') (hi : i < (up.getD c []).length) (hv : (up.getD c [])[i] = (v : Int)) (hm : m'.testBit v = false)
    (k : Climbed up v (m' ||| 2 ^ v) m2) : Mid up c (i + 1) m m2 := by
  have hsub : ∀ x, m'.testBit x = true → m2.testBit x = true := fun x hx => k.old x (by rw [or_bit, hx, Bool.true_or])
  have hvv : m2.testBit v = true := k.old v (by rw [or_bit]; simp)
  have e : edge up c v = true := by rw [edge_mem, ← hv]; exact List.getElem_mem hi
  refine ⟨fun u hu => hsub u (h.old u hu), fun u hu => ?_, fun x hx hm0 => ?_, k.lt⟩
  · rcases mem_take_succ hi hu with hu | hu
    · exact hsub u (h.named u hu)
    · have : u = v := by omega
      subst this
      exact hvv
  · cases hx' : m'.testBit x with
    | true =>
      obtain ⟨h1, h2⟩ := h.shut x hx' hm0
      exact ⟨h1, fun u hu => hsub u (h2 u hu)⟩
    | false =>
      by_cases hxv : v = x
      · subst hxv
        exact ⟨.one e, fun u hu => Climbed.all k u hu⟩
      · obtain ⟨h1, h2⟩ := k.shut x hx (by rw [or_bit, hx']; simpa using hxv)
        exact ⟨.more e h1, h2⟩
theorem climbed_above {up : List (List Int)} (hg : GoodUp up) {c m' : Nat} (h : Climbed up c 0 m') : m' = aboveN up c := by
  have key : ∀ a b, Reach up a b → (a = c ∨ m'.testBit a = true) → m'.testBit b = true := by
    intro a b hr
    have step : ∀ a b, edge up a b = true → (a = c ∨ m'.testBit a = true) → m'.testBit b = true := by
      intro a b e ha
      rcases ha with rfl | ha
      · exact Climbed.all h b e
      · exact (h.shut a ha (by simp)).2 b e
    induction hr with
    | one e => exact step _ _ e
    | more e _ ih => exact fun ha => ih (.inr (step _ _ e ha))
  apply Nat.eq_of_testBit_eq
  intro i
  rw [aboveN_bit, Bool.eq_iff_iff, Bool.and_eq_true, decide_eq_true_eq, reachB_iff hg]
  constructor
  · intro hb
    refine ⟨?_, (h.shut i hb (by simp)).1⟩
    rcases Nat.lt_or_ge i 6 with hi | hi
    · exact hi
    · rw [Nat.testBit_lt_two_pow (Nat.lt_of_lt_of_le h.lt (Nat.pow_le_pow_right (n := 2) (by decide) hi))] at hb
      exact absurd hb (by decide)
  · rintro ⟨_, hr⟩
    exact key c i hr (.inl rfl)
end Go.Proofs.YtgibmlbdkijflaaDoor.Graph
set_option linter.unusedVariables false
set_option linter.unusedSimpArgs false
set_option maxRecDepth 100000
namespace Go.Proofs.YtgibmlbdkijflaaDoor.Graph
open Go.RowKit Go.Proofs.YtgibmlbdkijflaaDoorW.PrintWords Go.Proofs.YtgibmlbdkijflaaDoorW.PrintLast
theorem inG (i : Int) (w : World) (h0 : 0 ≤ i) (h1 : i < 64) : Calls Tryd.prog 108 #[.int .i64 i] w fun e w' => e = .returned (.bool true) ∧ w = w' := by
  go_enter Tryd.func108, Tryd.ntmps108
  go_wp2
  go_ret
  exact ⟨rfl, rfl⟩
theorem hasB : ∀ m, m < 64 → ∀ u, u < 6 → (Go.bits .and .u64 ((m : Nat) / 2 ^ u : Int) 1 == 1) = m.testBit u := by decide +kernel
theorem withB : ∀ m, m < 64 → ∀ u, u < 6 → Go.bits .or .u64 (m : Nat) (IntKind.u64.wrap (2 ^ u)) = ((m ||| 2 ^ u : Nat) : Int) := by decide +kernel
theorem hasG (m u : Nat) (w : World) (hm : m < 64) (hu : u < 6) : Calls Tryd.prog 107 #[.int .u64 m, .int .i64 u] w fun e w' => e = .returned (.bool (m.testBit u)) ∧ w = w' := by
  have H := Aside0.mk (hasB m hm u hu)
  go_enter Tryd.func107, Tryd.ntmps107
  go_wp2_with (go_at_call 108; refine (inG _ _ (by omega) (by omega)).mono ?_; rintro e w' ⟨rfl, rfl⟩)
  go_ret
  exact ⟨by rw [← H.out]; rfl, rfl⟩
theorem withG (m u : Nat) (w : World) (hm : m < 64) (hu : u < 6) : Calls Tryd.prog 130 #[.int .u64 m, .int .i64 u] w fun e w' => e = .returned (.int .u64 ((m ||| 2 ^ u : Nat) : Int)) ∧ w = w' := by
  have H := Aside0.mk (withB m hm u hu)
  go_enter Tryd.func130, Tryd.ntmps130
  go_wp2_with (go_at_call 108; refine (inG _ _ (by omega) (by omega)).mono ?_; rintro e w' ⟨rfl, rfl⟩)
  go_ret
  exact ⟨by rw [← H.out]; rfl, rfl⟩
structure Sees (w0 w : World) (A : Option Addr) (C : Nat) (up : List (List Int)) (bu bm bc m : Nat) : Prop where
  B : Below w0.heap.size w0 w
  hu : w.cell? ⟨bu, 0, none⟩ = some (.slice A up.length C)
  hm : w.heap[bm]? = some (.cells #[.int .u64 m] 104 (0, 0))
  hc : w.cell? ⟨bc, 0, none⟩ = some (.func (.func 131) #[] #[.pointer (some ⟨bu, 0, none⟩), .pointer (some ⟨bm, 0, none⟩), .pointer (some ⟨bc, 0, none⟩)])
  lm : w0.heap.size ≤ bm
  um : bu ≠ bm
  cm : bc ≠ bm
theorem row_at {t : TypeId} {w : World} {A : Option Addr} {n : Nat} {xs : List (List Int)} (h : Kd.C (Kd.slice t (Kd.int .i64)) w A n xs) (i : Nat) (hi : i < n) :
    ∃ ad A0 c0, A = some ad ∧ w.cell? (ad.add i) = some (.slice A0 (xs.getD i []).length c0) ∧ (xs.getD i []).length ≤ c0 ∧ (Kd.int .i64).C w A0 (xs.getD i []).length (xs.getD i []) := by
  obtain ⟨ad, c, e, _, hK, hc0⟩ := Kd.C_get h ([] : List Int) (i : Int) (by omega) (by omega)
  have hc : ∀ j u, c[j]? = some u → w.cell? (ad.add ((i : Int).toNat * 1 + j)) = some u := hc0
  obtain ⟨A0, c0, rfl, l0, g0⟩ := hK
  exact ⟨ad, A0, c0, e, by have hq := hc 0 _ rfl; rwa [Nat.mul_one, Nat.add_zero, Int.toNat_natCast] at hq, l0, g0⟩
theorem num_at {w : World} {A : Option Addr} {n : Nat} {xs : List Int} (h : (Kd.int .i64).C w A n xs) (i : Nat) (hi : i < n) (hx : i < xs.length) : ∃ ad, A = some ad ∧ w.cell? (ad.add i) = some (.int .i64 xs[i]) := by
  obtain ⟨ad, e, hc⟩ := Kd.at_int h (i : Int) (by omega) (by omega)
  rw [show rd xs (i : Int) = xs[i] by simp [rd, hx], Int.toNat_natCast] at hc
  exact ⟨ad, e, hc⟩
theorem Sees.met {w0 w : World} {A : Option Addr} {C : Nat} {up : List (List Int)} {bu bm bc m : Nat} (h : Sees w0 w A C up bu bm bc m) : w.cell? ⟨bm, 0, none⟩ = some (.int .u64 m) ∧ w.frozen? ⟨bm, 0, none⟩ = false := by
  have e := h.hm
  constructor
  · simp [World.cell?, e]
  · simp [World.frozen?, e]
theorem Sees.put {w0 w : World} {A : Option Addr} {C : Nat} {up : List (List Int)} {bu bm bc m : Nat} (h : Sees w0 w A C up bu bm bc m) (m' : Nat) : Sees w0 (w.setCell ⟨bm, 0, none⟩ (.int .u64 m')) A C up bu bm bc m' := by
  have e := h.hm
  have hk : ∀ k, k ≠ bm → (w.setCell ⟨bm, 0, none⟩ (.int .u64 m')).heap[k]? = w.heap[k]? := fun k hk => Below.heap_setCell w ⟨bm, 0, none⟩ _ k hk
  refine ⟨h.B.setCell h.lm _, ?_, ?_, ?_, h.lm, h.um, h.cm⟩
  · rw [← h.hu]; simp only [World.cell?, hk bu h.um]
  · exact blk_put e 0 _ rfl
  · rw [← h.hc]; simp only [World.cell?, hk bc h.cm]
set_option maxHeartbeats 2000000 in
theorem climb (w0 : World) (A : Option Addr) (C : Nat) (up : List (List Int)) (hg : GoodUp up) (bu bm bc : Nat) (hr : Kd.C (Kd.slice 3 (Kd.int .i64)) w0 A up.length up) :
    ∀ (d m c : Nat) (w : World), left m = d → m < 64 → c < up.length → Sees w0 w A C up bu bm bc m →
      Calls Tryd.prog 131 #[.int .i64 c, .pointer (some ⟨bu, 0, none⟩), .pointer (some ⟨bm, 0, none⟩), .pointer (some ⟨bc, 0, none⟩)] w fun e w' => e = .returned (.tuple #[]) ∧ ∃ m', Sees w0 w' A C up bu bm bc m' ∧ Climbed up c m m' := by
  intro d
  induction d using Nat.strongRecOn with
  | ind d ih =>
    intro m c w hd hm hc hs
    have hu := hs.hu
    obtain ⟨ad, A0, c0, rfl, hrow, hl0, hnum⟩ := row_at hr c hc
    have hlt0 : ∀ u ∈ up.getD c [], 0 ≤ u ∧ u < 6 := fun u hu => by
      rw [List.getD_eq_getElem?_getD, List.getElem?_eq_getElem hc] at hu
      have := hg.2 _ (List.getElem_mem hc) u hu
      have := hg.1
      omega
    obtain ⟨l, hL⟩ : ∃ l, up.getD c [] = l := ⟨_, rfl⟩
    rw [hL] at hrow hl0 hnum hlt0
    have hln := Kd.C_max hnum
    have hroww : w.cell? (ad.add c) = some (.slice A0 l.length c0) := by rw [← hrow]; exact hs.B.cell (World.block_lt_of_cell? _ _ hrow)
    have IH := Aside0.mk ih
    have HD := Aside0.mk hd
    have HS := Aside0.mk hs
    have HN := Aside0.mk hnum
    have HG := Aside0.mk hg
    have HR := Aside0.mk hr
    have HL := Aside0.mk hL
    have HLT := Aside0.mk hlt0
    have hc1 : (c : Int) < (up.length : Int) := by omega
    clear ih hd hs hnum hg hr hrow hL hlt0
    go_enter Tryd.func131, Tryd.ntmps131
    go_wp2_with fail
    clear hu hroww
    go_loopw [12] (fun v wr => ∃ (i mi : Nat), i ≤ l.length ∧ v = .int .i64 i ∧ Sees w0 wr (some ad) C up bu bm bc mi ∧ Mid up c i m mi) (fun v _ => l.length - (intOf v).toNat)
    case atStart => exact ⟨0, m, Nat.zero_le _, rfl, HS.out, Mid.start up c m hm⟩
    case round =>
      obtain ⟨i, mi, hi, rfl, hsee, hmid⟩ := hrel
      have HM := Aside0.mk hmid
      have HE := Aside0.mk hsee
      by_cases hlt : i < l.length
      · obtain ⟨a0, rfl, hx⟩ := num_at HN.out i hlt hlt
        have hxw : wr.cell? (a0.add i) = some (.int .i64 l[i]) := by rw [← hx]; exact hsee.B.cell (World.block_lt_of_cell? _ _ hx)
        have hb6 := HLT.out _ (List.getElem_mem hlt)
        obtain ⟨v, hv⟩ : ∃ v : Nat, l[i] = (v : Int) := ⟨l[i].toNat, by omega⟩
        rw [hv] at hxw hb6
        have hv6 : v < 6 := by omega
        have hmi := hmid.lt
        have HV := Aside0.mk hv
        have HI := Aside0.mk hlt
        have t1 : (i : Int) < (l.length : Int) := by omega
        obtain ⟨hmc, hmf⟩ := hsee.met
        have hcc := hsee.hc
        clear hx hv hmid hsee hb6
        cases hb : mi.testBit v with
        | true =>
          have HB := Aside0.mk hb
          go_wp2_with (first | (go_at_call 107; refine (hasG _ _ _ hmi hv6).mono ?_; rintro e w' ⟨rfl, rfl⟩))
          go_roundw
          case rel => exact ⟨i + 1, mi, by omega, by go_num, HE.out, HM.out.met (by rw [HL.out]; exact HI.out) (by simp only [HL.out]; exact HV.out) HB.out⟩
          case measure => simp [intOf]; omega
        | false =>
          have HB := Aside0.mk hb
          have hvl : v < up.length := by
            have h1 := HL.out
            have h2 := HLT.out _ (List.getElem_mem HI.out)
            have : edge up c v = true := by rw [edge_mem, HL.out, ← HV.out]; exact List.getElem_mem HI.out
            exact (edge_lt HG.out this).2
          have HLF := Aside0.mk (left_lt mi hmi v hv6 hb)
          have HP := Aside0.mk (HE.out.put (mi ||| 2 ^ v))
          have hcc2 := HP.out.hc
          go_wp2_with (first | (go_at_call 107; refine (hasG _ _ _ hmi hv6).mono ?_; rintro e w' ⟨rfl, rfl⟩) | (go_at_call 130; refine (withG _ _ _ hmi hv6).mono ?_; rintro e w' ⟨rfl, rfl⟩))
          refine (IH.out (left (mi ||| 2 ^ v)) (by rw [← HD.out]; exact Nat.lt_of_lt_of_le HLF.out (left_le HM.out.old)) _ v _ rfl (or_lt mi hmi v hv6) hvl HP.out).mono ?_
          rintro e w2 ⟨rfl, m2, hs2, hk2⟩
          have HS2 := Aside0.mk hs2
          have HK2 := Aside0.mk hk2
          clear hs2 hk2
          go_wp2
          go_roundw
          case rel => exact ⟨i + 1, m2, by omega, by go_num, HS2.out, HM.out.new (by rw [HL.out]; exact HI.out) (by simp only [HL.out]; exact HV.out) HB.out HK2.out⟩
          case measure => simp [intOf]; omega
      · have t1 : decide ((i : Int) < (l.length : Int)) = false := decide_eq_false (by omega)
        have hil : i = l.length := by omega
        have HIL := Aside0.mk hil
        clear hil
        go_wp2
        go_end0
        exact ⟨rfl, mi, HE.out, by have := HM.out; rw [HIL.out, ← HL.out] at this; exact this⟩
theorem three (w : World) (o1 o2 o3 : Obj) : (((w.alloc o1).alloc o2).alloc o3).heap[w.heap.size]? = some o1 ∧ (((w.alloc o1).alloc o2).alloc o3).heap[w.heap.size + 1]? = some o2 ∧ (((w.alloc o1).alloc o2).alloc o3).heap[w.heap.size + 1 + 1]? = some o3 := by
  have s1 : (w.alloc o1).heap.size = w.heap.size + 1 := by simp
  have s2 : ((w.alloc o1).alloc o2).heap.size = w.heap.size + 1 + 1 := by simp
  have e1 := heap_alloc_new w o1
  have e2 := heap_alloc_new (w.alloc o1) o2
  have e3 := heap_alloc_new ((w.alloc o1).alloc o2) o3
  rw [s1] at e2
  rw [s2] at e3
  have b2 := (Below.refl (w.alloc o1).heap.size (w.alloc o1)).alloc (Nat.le_refl _) o2
  have b3 := (Below.refl ((w.alloc o1).alloc o2).heap.size ((w.alloc o1).alloc o2)).alloc (Nat.le_refl _) o3
  exact ⟨((b3.block _ (by omega)).trans (b2.block _ (by omega))).trans e1, (b3.block _ (by omega)).trans e2, e3⟩
theorem below_three (w : World) (o1 o2 o3 : Obj) : Below w.heap.size w (((w.alloc o1).alloc o2).alloc o3) :=
  (((Below.refl w.heap.size w).alloc (Nat.le_refl _) _).alloc (by simp) _).alloc (by simp; omega) _
theorem Sees.start (w : World) (A : Option Addr) (C : Nat) (up : List (List Int)) :
    Sees w (((w.alloc (.cells #[.slice A up.length C] 23)).alloc (.cells #[.int .u64 0] 104)).alloc (.cells #[.func (.func 131) #[] #[.pointer (some ⟨w.heap.size, 0, none⟩), .pointer (some ⟨w.heap.size + 1, 0, none⟩), .pointer (some ⟨w.heap.size + 1 + 1, 0, none⟩)]] 155))
      A C up w.heap.size (w.heap.size + 1) (w.heap.size + 1 + 1) 0 := by
  obtain ⟨h1, h2, h3⟩ := three w (.cells #[.slice A up.length C] 23) (.cells #[.int .u64 0] 104) (.cells #[.func (.func 131) #[] #[.pointer (some ⟨w.heap.size, 0, none⟩), .pointer (some ⟨w.heap.size + 1, 0, none⟩), .pointer (some ⟨w.heap.size + 1 + 1, 0, none⟩)]] 155)
  refine ⟨below_three _ _ _ _, ?_, h2, ?_, by omega, by omega, by omega⟩
  · simp only [World.cell?, h1]; rfl
  · simp only [World.cell?, h3]; rfl
set_option maxHeartbeats 2000000 in
theorem above (w : World) (A : Option Addr) (C : Nat) (up : List (List Int)) (hg : GoodUp up) (c : Nat) (hc : c < up.length) (hr : Kd.C (Kd.slice 3 (Kd.int .i64)) w A up.length up) :
    Calls Tryd.prog 106 #[.slice A up.length C, .int .i64 c] w fun e w' => e = .returned (.int .u64 (aboveN up c)) ∧ Below w.heap.size w w' := by
  have HG := Aside0.mk hg
  have HR := Aside0.mk hr
  have HC := Aside0.mk hc
  clear hg hr hc
  go_enter Tryd.func106, Tryd.ntmps106
  go_wp2_with fail
  refine (climb w A C up HG.out _ _ _ HR.out _ 0 c _ rfl (by decide) HC.out (Sees.start w A C up)).mono ?_
  rintro e w2 ⟨rfl, m2, hs2, hk2⟩
  have HB := Aside0.mk hs2.B
  have hm := hs2.met.1
  have HK := Aside0.mk (climbed_above HG.out hk2)
  clear hk2 hs2
  go_wp2
  go_ret
  exact ⟨by rw [← HK.out]; rfl, HB.out⟩
end Go.Proofs.YtgibmlbdkijflaaDoor.Graph
namespace Go.Proofs.YtgibmlbdkijflaaDoor.QGc
open Go.RowKit Go.Proofs.YtgibmlbdkijflaaDoorW.PrintWords Go.Proofs.YtgibmlbdkijflaaDoor.Graph
def graph_above.f (l0 : List (List Int)) (a1 : Int) : Option Int := if GoodUp l0 ∧ 0 ≤ a1 ∧ a1 < l0.length then some (aboveN l0 a1.toNat : Int) else none
theorem graph_above.calls (A0 : Option Addr) (c0 : Nat) (l0 : List (List Int)) (a1 : Int) (r : Int) (w : World) (hr0 : Kd.C (Kd.slice 3 (Kd.int .i64)) w A0 l0.length l0) (hc0 : l0.length ≤ c0) (h : graph_above.f l0 a1 = some r) :
    Calls Tryd.prog 106 #[.slice A0 l0.length c0, .int .i64 a1] w fun e w' => e = .returned (.int .u64 r) ∧ Below w.heap.size w w' := by
  unfold graph_above.f at h
  split at h
  · rename_i hx
    obtain rfl := Option.some.inj h
    have := above w A0 c0 l0 hx.1 a1.toNat (by omega) hr0
    rwa [show ((a1.toNat : Nat) : Int) = a1 by omega] at this
  · exact absurd h (by simp)
end Go.Proofs.YtgibmlbdkijflaaDoor.QGc
set_option linter.unusedVariables false
set_option linter.unusedSimpArgs false
set_option maxRecDepth 100000
namespace Go.Proofs.YtgibmlbdkijflaaDoor.Graph
open Go.RowKit Go.Proofs.YtgibmlbdkijflaaDoorW.PrintWords Go.Proofs.YtgibmlbdkijflaaDoorW.PrintLast
def arr (T : Nat → Nat → Bool) : Array Value := ((List.range 36).map fun j => Value.bool (T (j / 6) (j % 6))).toArray
def noT : Nat → Nat → Bool := fun _ _ => false
theorem arr_size (T : Nat → Nat → Bool) : (arr T).size = 36 := by simp [arr]
theorem arr_at (T : Nat → Nat → Bool) (a b : Nat) (ha : a < 6) (hb : b < 6) : (arr T)[a * 6 + b]? = some (.bool (T a b)) := by
  have h1 : (a * 6 + b) / 6 = a := by omega
  have h2 : (a * 6 + b) % 6 = b := by omega
  have h3 : a * 6 + b < 36 := by omega
  simp [arr, List.getElem?_range h3, h1, h2]
def upd (T : Nat → Nat → Bool) (a b : Nat) (v : Bool) : Nat → Nat → Bool := fun x y => if x = a ∧ y = b then v else T x y
theorem arr_set (T : Nat → Nat → Bool) (a b : Nat) (v : Bool) (ha : a < 6) (hb : b < 6) : (arr T).setIfInBounds (a * 6 + b) (.bool v) = arr (upd T a b v) := by
  apply Array.ext_getElem?
  intro j
  by_cases hj : j < 36
  · rw [Array.getElem?_setIfInBounds]
    have e : j = j / 6 * 6 + j % 6 := by omega
    by_cases hab : a * 6 + b = j
    · subst hab
      rw [if_pos rfl, if_pos (by rw [arr_size]; exact hj), arr_at _ _ _ ha hb]
      simp [upd]
    · rw [if_neg hab]
      rw [e, arr_at _ _ _ (by omega) (by omega), arr_at _ _ _ (by omega) (by omega)]
      unfold upd
      rw [if_neg (by omega)]
  · rw [Array.getElem?_eq_none (by rw [Array.size_setIfInBounds, arr_size]; omega), Array.getElem?_eq_none (by rw [arr_size]; omega)]
theorem arr_congr {T T' : Nat → Nat → Bool} (h : ∀ x y, x < 6 → y < 6 → T x y = T' x y) : arr T = arr T' := by
  unfold arr
  congr 1
  apply List.map_congr_left
  intro j hj
  have := List.mem_range.1 hj
  rw [h _ _ (by omega) (by omega)]
structure TabAt (w0 w : World) (r g : Nat) (T : Nat → Nat → Bool) : Prop where
  B : Below w0.heap.size w0 w
  hT : w.heap[g]? = some (.cells (arr T) 110 (0, 0))
  lg : w0.heap.size ≤ g
  hR : w.heap[r]? = some (.cells (arr noT) 110 (0, 0))
  ne : r ≠ g
theorem TabAt.cell {w0 w : World} {r g : Nat} {T : Nat → Nat → Bool} (h : TabAt w0 w r g T) (a b : Nat) (ha : a < 6) (hb : b < 6) : w.cell? ⟨g, a * 6 + b, none⟩ = some (.bool (T a b)) := by
  rw [cell_of_row w g _ _ _ _ h.hT, arr_at T a b ha hb]
theorem TabAt.frozen {w0 w : World} {r g : Nat} {T : Nat → Nat → Bool} (h : TabAt w0 w r g T) (i : Nat) : w.frozen? ⟨g, i, none⟩ = false := frozen_of_row w g i _ _ h.hT
theorem TabAt.put {w0 w : World} {r g : Nat} {T : Nat → Nat → Bool} (h : TabAt w0 w r g T) (a b : Nat) (v : Bool) (ha : a < 6) (hb : b < 6) : TabAt w0 (w.setCell ⟨g, a * 6 + b, none⟩ (.bool v)) r g (upd T a b v) :=
  ⟨h.B.setCell h.lg _, by rw [← arr_set T a b v ha hb]; exact blk_put h.hT _ _ rfl, h.lg, (Below.heap_setCell w ⟨g, a * 6 + b, none⟩ _ r h.ne).trans h.hR, h.ne⟩
theorem TabAt.congr {w0 w : World} {r g : Nat} {T T' : Nat → Nat → Bool} (h : TabAt w0 w r g T) (e : ∀ x y, x < 6 → y < 6 → T x y = T' x y) : TabAt w0 w r g T' := ⟨h.B, by rw [← arr_congr e]; exact h.hT, h.lg, h.hR, h.ne⟩
theorem TabAt.drew {w0 w : World} {r g : Nat} {T : Nat → Nat → Bool} (h : TabAt w0 w r g T) : TabAt w0 w.drew r g T := ⟨h.B.drew, h.hT, h.lg, h.hR, h.ne⟩
theorem infoT : (Tryd.prog.info? 110).map (fun i => (i.zero, i.size)) = some (some (.agg (arr noT)), 36) := by kernel_rfl
theorem builtT : Tryd.prog.built 110 [] = some (arr noT) := by kernel_rfl
theorem still_want {P : Program} {ops : Array Oper} {w : World} {Q : Act → Prop} {a : Act} {o : Oper} {rest : List Oper} (hw : Region.wanted o (yielded ops a.tmps) = true)
    (h : ∀ K : Act → Prop, (∀ a, wpStill P ops w Q rest a → K a) → o.still P a w K) : wpStill P ops w Q (o :: rest) a := by
  refine wpStill_step fun K hK => ?_
  rw [if_pos hw]
  exact h K hK
theorem still_skip {P : Program} {ops : Array Oper} {w : World} {Q : Act → Prop} {a : Act} {o : Oper} {rest : List Oper} (hw : Region.wanted o (yielded ops a.tmps) = false)
    (h : ∀ K : Act → Prop, (∀ a, wpStill P ops w Q rest a → K a) → K (a.put o.dst undef)) : wpStill P ops w Q (o :: rest) a := by
  refine wpStill_step fun K hK => ?_
  rw [if_neg (by rw [hw]; decide)]
  exact h K hK
def fst (up : List (List Int)) (c : Nat) : Nat → Nat → Bool := fun x y => decide (x < c) && edge up x y
def snd_ (up : List (List Int)) (c i : Nat) : Nat → Nat → Bool := fun x y => fst up c x y || (decide (x = c) && ((up.getD c []).take i).contains (y : Int))
def mix (up : List (List Int)) (k m : Nat) : Nat → Nat → Bool := fun x y => if x * 6 + y < m then tab up (k + 1) x y else tab up k x y
theorem snd_zero (up : List (List Int)) (c x y : Nat) : snd_ up c 0 x y = fst up c x y := by simp [snd_]
theorem snd_all (up : List (List Int)) (c x y : Nat) : snd_ up c (up.getD c []).length x y = fst up (c + 1) x y := by
  unfold snd_ fst edge
  rw [List.take_of_length_le (Nat.le_refl _)]
  by_cases e : x = c
  · subst e; simp
  · have : decide (x < c + 1) = decide (x < c) := by rw [decide_eq_decide]; omega
    rw [this, decide_eq_false e]; simp
theorem snd_step (up : List (List Int)) (c i u : Nat) (hi : i < (up.getD c []).length) (hu : (up.getD c [])[i] = (u : Int)) (x y : Nat) : upd (snd_ up c i) c u true x y = snd_ up c (i + 1) x y := by
  unfold upd snd_
  rw [List.take_succ_eq_append_getElem hi, List.contains_eq_mem, List.contains_eq_mem, hu]
  by_cases e : x = c
  · subst e
    by_cases e2 : y = u
    · subst e2; simp
    · have : ¬ ((y : Int) = (u : Int)) := by omega
      simp [e2, this]
  · simp [e]
theorem mix_zero (up : List (List Int)) (k x y : Nat) : mix up k 0 x y = tab up k x y := by simp [mix]
theorem mix_all (up : List (List Int)) (k x y : Nat) (hx : x < 6) (hy : y < 6) : mix up k 36 x y = tab up (k + 1) x y := by
  unfold mix
  rw [if_pos (by omega)]
theorem mix_col (up : List (List Int)) (k m a : Nat) : mix up k m a k = tab up k a k := by
  unfold mix
  rw [tab_col]
  split <;> rfl
theorem mix_row (up : List (List Int)) (k m b : Nat) : mix up k m k b = tab up k k b := by
  unfold mix
  rw [tab_row]
  split <;> rfl
theorem mix_here (up : List (List Int)) (k a b : Nat) : mix up k (a * 6 + b) a b = tab up k a b := by
  unfold mix
  rw [if_neg (by omega)]
theorem mix_step (up : List (List Int)) (k a b : Nat) (ha : a < 6) (hb : b < 6) (x y : Nat) (hx : x < 6) (hy : y < 6) :
    upd (mix up k (a * 6 + b)) a b (tab up k a b || (tab up k a k && tab up k k b)) x y = mix up k (a * 6 + b + 1) x y := by
  unfold upd mix
  by_cases e : x = a ∧ y = b
  · rw [if_pos e, if_pos (by omega), e.1, e.2]
    rfl
  · rw [if_neg e]
    by_cases h : x * 6 + y < a * 6 + b
    · rw [if_pos h, if_pos (by omega)]
    · rw [if_neg h, if_neg (by omega)]
section
variable {ops : Array Oper} {rest : List Oper} {o : Oper} {a : Act} {w : World} {Q : Exit → Act → World → Prop}
theorem alloc_T (hg : o.guard = none) (ho : o.op = .alloc 110)
    (h : wpList Tryd.prog ops Q rest (a.put o.dst (.pointer (some ⟨w.heap.size, 0, none⟩))) (w.alloc (.cells (arr noT) 110))) : wpList Tryd.prog ops Q (o :: rest) a w :=
  wpList_plain hg fun _ hK => by
    have z := (zero_of_info infoT).1 w
    unfold Oper.wp execOp
    simp only [ho, Instr.alloc, Sem.run_bind, z, Result.andThen_ok, newVar, Value.cells, run_newObj_alloc, Sem.run_pure, Oper.upon_value]
    exact hK _ _ h
theorem build_T (hg : o.guard = none) (ho : o.op = .build 110 #[])
    (h : wpList Tryd.prog ops Q rest (a.put o.dst (.agg (arr noT))) w) : wpList Tryd.prog ops Q (o :: rest) a w :=
  wpList_build hg _ #[] ho (by simp only [List.map_toArray, List.map_nil]; rw [builtT]; rfl) (by
    simp only [List.map_toArray, List.map_nil]
    rw [builtT]; exact h)
theorem store_T (hgd : o.guard = none) (x y : Operand) (ho : o.op = .store 110 x y) {w1 : World} {T T' : Nat → Nat → Bool}
    (hx : a.eval x = .pointer (some ⟨w1.heap.size, 0, none⟩)) (hy : a.eval y = .agg (arr T'))
    (h : wpList Tryd.prog ops Q rest (a.put o.dst undef) (w1.alloc (.cells (arr T') 110))) : wpList Tryd.prog ops Q (o :: rest) a (w1.alloc (.cells (arr T) 110)) :=
  wpList_store_row hgd _ x y ho w1.heap.size (arr T') hx hy _ (arr T) (heap_alloc_last w1 _) (by rw [(zero_of_info infoT).2, arr_size]) (by rw [arr_size, arr_size])
    (by simp [arr, Value.oneCell']) (by rw [World.setRow_alloc_new]; exact h)
end
set_option maxHeartbeats 2000000 in
theorem of_ (w : World) (A : Option Addr) (C : Nat) (up : List (List Int)) (hg : GoodUp up) (hr : Kd.C (Kd.slice 3 (Kd.int .i64)) w A up.length up) :
    Calls Tryd.prog 73 #[.slice A up.length C] w fun e w' => e = .returned (.agg (arr (reachB up))) ∧ Below w.heap.size w w' := by
  go_enter Tryd.func73, Tryd.ntmps73
  go_wp2_with (first | (with_reducible refine alloc_T rfl rfl ?_) | (with_reducible refine build_T rfl rfl ?_) | (with_reducible refine store_T rfl _ _ rfl rfl rfl ?_))
  have hT0 : TabAt w ((w.alloc (.cells (arr noT) 110)).alloc (.cells (arr noT) 110)) w.heap.size (w.heap.size + 1) (fst up 0) :=
    TabAt.congr ⟨((Below.refl w.heap.size w).alloc (Nat.le_refl _) _).alloc (by simp) _, heap_alloc2_new w _ _, by omega, heap_alloc2_old w _ _, by omega⟩ (fun x y _ _ => by simp [noT, fst])
  have hR0 : ((w.alloc (.cells (arr noT) 110)).alloc (.cells (arr noT) 110)).heap[w.heap.size]? = some (.cells (arr noT) 110 (0, 0)) := heap_alloc2_old w _ _
  have hz0 : w.heap.size + 1 < ((w.alloc (.cells (arr noT) 110)).alloc (.cells (arr noT) 110)).heap.size := by simp
  generalize ((w.alloc (.cells (arr noT) 110)).alloc (.cells (arr noT) 110)) = w1 at *
  obtain ⟨g, hgz⟩ : ∃ g, Aside0 (w.heap.size = g) := ⟨_, ⟨rfl⟩⟩
  rw [hgz.out] at hT0 hR0 hz0 ⊢
  have HT := Aside0.mk hT0
  have HR0 := Aside0.mk hR0
  have HG := Aside0.mk hg
  have HR := Aside0.mk hr
  have hn6 := hg.1
  clear hT0 hR0 hg hr
  go_loopw [4] (fun v wr => ∃ c : Nat, c ≤ up.length ∧ v = .int .i64 c ∧ TabAt w wr g (g + 1) (fst up c)) (fun v _ => up.length - (intOf v).toNat)
  case atStart => exact ⟨0, Nat.zero_le _, rfl, HT.out⟩
  case round =>
    obtain ⟨c, hc, rfl, hTc⟩ := hrel
    have HTc := Aside0.mk hTc
    clear hTc
    by_cases hlt : c < up.length
    · have t1 : decide ((c : Int) < (up.length : Int)) = true := decide_eq_true (by omega)
      have hci : (c : Int) < (up.length : Int) := by omega
      have hc6 : c < 6 := by omega
      obtain ⟨ad, A0, c0, rfl, hrow, hl0, hnum⟩ := row_at HR.out c hlt
      have hlt0 : ∀ u ∈ up.getD c [], 0 ≤ u ∧ u < 6 := fun u hu => by
        rw [List.getD_eq_getElem?_getD, List.getElem?_eq_getElem hlt] at hu
        have := HG.out.2 _ (List.getElem_mem hlt) u hu
        omega
      obtain ⟨l, hL⟩ : ∃ l, up.getD c [] = l := ⟨_, rfl⟩
      rw [hL] at hrow hl0 hnum hlt0
      have hln := Kd.C_max hnum
      have HROW := Aside0.mk hrow
      have HN := Aside0.mk hnum
      have HL := Aside0.mk hL
      have HLT := Aside0.mk hlt0
      have HCL := Aside0.mk hlt
      clear hrow hnum hL hlt0 hlt
      obtain ⟨wo, hwo⟩ : ∃ wo : World, wo = wr := ⟨_, rfl⟩
      rw [← hwo] at HTc ⊢
      clear hwo
      go_wp2_with fail
      go_loopw [5] (fun v wr => ∃ i : Nat, i ≤ l.length ∧ v = .int .i64 i ∧ TabAt w wr g (g + 1) (snd_ up c i)) (fun v _ => l.length - (intOf v).toNat)
      case atStart => exact ⟨0, Nat.zero_le _, rfl, HTc.out.congr fun x y _ _ => (snd_zero up c x y).symm⟩
      case round =>
        obtain ⟨i, hi, rfl, hTi⟩ := hrel
        have HTi := Aside0.mk hTi
        have hroww : wr.cell? (ad.add c) = some (.slice A0 l.length c0) := by rw [← HROW.out]; exact hTi.B.cell (World.block_lt_of_cell? _ _ HROW.out)
        by_cases hlti : i < l.length
        · obtain ⟨a0, rfl, hx⟩ := num_at HN.out i hlti hlti
          have hxw : wr.cell? (a0.add i) = some (.int .i64 l[i]) := by rw [← hx]; exact hTi.B.cell (World.block_lt_of_cell? _ _ hx)
          have hb6 := HLT.out _ (List.getElem_mem hlti)
          obtain ⟨u, hu⟩ : ∃ u : Nat, l[i] = (u : Int) := ⟨l[i].toNat, by omega⟩
          rw [hu] at hxw hb6
          have hu6 : u < 6 := by omega
          have HU := Aside0.mk hu
          have HI := Aside0.mk hlti
          have t1 : (i : Int) < (l.length : Int) := by omega
          have hu6i : (u : Int) < 6 := by omega
          have hc6i : (c : Int) < 6 := by omega
          have hcell := hTi.cell c u hc6 hu6
          have hfro := hTi.frozen (c * 6 + u)
          have HP := Aside0.mk ((hTi.drew.put c u true hc6 hu6).congr fun x y _ _ => by rw [snd_step up c i u (by rw [HL.out]; exact HI.out) (by simp only [HL.out]; exact HU.out)])
          clear hx hu hTi hb6
          go_wp2_with fail
          go_still_tail 10, (by kernel_rfl)
          go_wp2_with fail
          go_roundw
          case rel => exact ⟨i + 1, by omega, by go_num, HP.out⟩
          case measure => simp [intOf]; omega
        · have t1 : decide ((i : Int) < (l.length : Int)) = false := decide_eq_false (by omega)
          have hil : i = l.length := by omega
          subst hil
          go_wp2_with fail
          go_roundw
          case rel => exact ⟨c + 1, by have := HCL.out; omega, by go_num, HTi.out.congr fun x y _ _ => by rw [← snd_all up c x y, HL.out]⟩
          case measure => simp [intOf]; omega
    · have t1 : decide ((c : Int) < (up.length : Int)) = false := decide_eq_false (by omega)
      have hcl : c = up.length := by omega
      subst hcl
      have HM := Aside0.mk (show TabAt w wr g (g + 1) (tab up 0) from HTc.out.congr fun x y hx hy => by
        show (decide (x < up.length) && edge up x y) = edge up x y
        by_cases e : edge up x y = true
        · rw [e, decide_eq_true (edge_lt HG.out e).1]; rfl
        · rw [Bool.eq_false_iff.2 e, Bool.and_false])
      clear HTc
      obtain ⟨wo, hwo⟩ : ∃ wo : World, wo = wr := ⟨_, rfl⟩
      rw [← hwo] at HM ⊢
      clear hwo
      go_wp2_with fail
      go_loopw [6] (fun v wr => ∃ k : Nat, k ≤ 6 ∧ v = .int .i64 k ∧ TabAt w wr g (g + 1) (tab up k)) (fun v _ => 6 - (intOf v).toNat)
      case atStart => exact ⟨0, by omega, rfl, HM.out⟩
      case round =>
        obtain ⟨k, hk, rfl, hTk⟩ := hrel
        have HTk := Aside0.mk hTk
        clear hTk
        by_cases hk6 : k < 6
        · have t2 : decide ((k : Int) < 6) = true := decide_eq_true (by omega)
          have hk6i : (k : Int) < 6 := by omega
          have HK6 := Aside0.mk hk6
          obtain ⟨wo2, hwo⟩ : ∃ wo : World, wo = wr := ⟨_, rfl⟩
          rw [← hwo] at HTk ⊢
          clear hwo
          go_wp2_with fail
          go_loopw [7] (fun v wr => ∃ a : Nat, a ≤ 6 ∧ v = .int .i64 a ∧ TabAt w wr g (g + 1) (mix up k (a * 6))) (fun v _ => 6 - (intOf v).toNat)
          case atStart => exact ⟨0, by omega, rfl, HTk.out.congr fun x y _ _ => (mix_zero up k x y).symm⟩
          case round =>
            obtain ⟨a, ha, rfl, hTa⟩ := hrel
            have HTa := Aside0.mk hTa
            clear hTa
            by_cases ha6 : a < 6
            · have t3 : decide ((a : Int) < 6) = true := decide_eq_true (by omega)
              have ha6i : (a : Int) < 6 := by omega
              have HA6 := Aside0.mk ha6
              obtain ⟨wo3, hwo⟩ : ∃ wo : World, wo = wr := ⟨_, rfl⟩
              rw [← hwo] at HTa ⊢
              clear hwo
              go_wp2_with fail
              go_loopw [8] (fun v wr => ∃ b : Nat, b ≤ 6 ∧ v = .int .i64 b ∧ TabAt w wr g (g + 1) (mix up k (a * 6 + b))) (fun v _ => 6 - (intOf v).toNat)
              case atStart => exact ⟨0, by omega, rfl, HTa.out⟩
              case round =>
                obtain ⟨b, hb, rfl, hTb⟩ := hrel
                have HTb := Aside0.mk hTb
                by_cases hb6 : b < 6
                · have t4 : decide ((b : Int) < 6) = true := decide_eq_true (by omega)
                  have hb6i : (b : Int) < 6 := by omega
                  have HB6 := Aside0.mk hb6
                  have c1 := hTb.cell a b ha6 hb6
                  have c2 := hTb.cell a k ha6 hk6
                  have c3 := hTb.cell k b hk6 hb6
                  have f1 := hTb.frozen (a * 6 + b)
                  rw [mix_here] at c1
                  rw [mix_col] at c2
                  rw [mix_row] at c3
                  obtain ⟨v1, hv1⟩ : ∃ v, tab up k a b = v := ⟨_, rfl⟩
                  obtain ⟨v2, hv2⟩ : ∃ v, tab up k a k = v := ⟨_, rfl⟩
                  obtain ⟨v3, hv3⟩ : ∃ v, tab up k k b = v := ⟨_, rfl⟩
                  have HP := Aside0.mk ((hTb.drew.put a b (v1 || (v2 && v3)) ha6 hb6).congr fun x y hx hy => by rw [← hv1, ← hv2, ← hv3, mix_step up k a b ha6 hb6 x y hx hy])
                  rw [hv1] at c1
                  rw [hv2] at c2
                  rw [hv3] at c3
                  clear hTb hv1 hv2 hv3
                  go_wp2_with fail
                  cases v1 with
                  | true =>
                    refine wp_region_still_tail 23 (by kernel_rfl) (by kernel_rfl) ?_
                    simp only [List.take_succ_cons, List.take_zero, List.drop_succ_cons, List.drop_zero]
                    iterate 8 (with_reducible refine still_want (by kernel_rfl) ?_; intro K hK; go_simp; refine hK _ ?_; clear hK K)
                    iterate 12 (with_reducible refine still_skip (by kernel_rfl) ?_; intro K hK; go_simp; refine hK _ ?_; clear hK K)
                    iterate 3 (with_reducible refine still_want (by kernel_rfl) ?_; intro K hK; go_simp; refine hK _ ?_; clear hK K)
                    refine wpStill_nil ?_
                    go_wp2_with fail
                    go_roundw
                    case rel => exact ⟨b + 1, by omega, by go_num, HP.out⟩
                    case measure => simp [intOf]; omega
                  | false =>
                    cases v2 with
                    | false =>
                      refine wp_region_still_tail 23 (by kernel_rfl) (by kernel_rfl) ?_
                      simp only [List.take_succ_cons, List.take_zero, List.drop_succ_cons, List.drop_zero]
                      iterate 14 (with_reducible refine still_want (by kernel_rfl) ?_; intro K hK; go_simp; refine hK _ ?_; clear hK K)
                      iterate 5 (with_reducible refine still_skip (by kernel_rfl) ?_; intro K hK; go_simp; refine hK _ ?_; clear hK K)
                      iterate 4 (with_reducible refine still_want (by kernel_rfl) ?_; intro K hK; go_simp; refine hK _ ?_; clear hK K)
                      refine wpStill_nil ?_
                      go_wp2_with fail
                      go_roundw
                      case rel => exact ⟨b + 1, by omega, by go_num, HP.out⟩
                      case measure => simp [intOf]; omega
                    | true =>
                      refine wp_region_still_tail 23 (by kernel_rfl) (by kernel_rfl) ?_
                      simp only [List.take_succ_cons, List.take_zero, List.drop_succ_cons, List.drop_zero]
                      iterate 23 (with_reducible refine still_want (by kernel_rfl) ?_; intro K hK; go_simp; refine hK _ ?_; clear hK K)
                      refine wpStill_nil ?_
                      go_wp2_with fail
                      go_roundw
                      case rel => exact ⟨b + 1, by omega, by go_num, HP.out⟩
                      case measure => simp [intOf]; omega
                · have t4 : decide ((b : Int) < 6) = false := decide_eq_false (by omega)
                  have hb : b = 6 := by omega
                  subst hb
                  clear hTb
                  go_wp2_with fail
                  go_roundw
                  case rel => exact ⟨a + 1, by omega, by go_num, HTb.out.congr fun x y _ _ => by rw [show a * 6 + 6 = (a + 1) * 6 by omega]⟩
                  case measure => simp [intOf]; omega
            · have t3 : decide ((a : Int) < 6) = false := decide_eq_false (by omega)
              have ha : a = 6 := by omega
              subst ha
              go_wp2_with fail
              go_roundw
              case rel => exact ⟨k + 1, by omega, by go_num, HTa.out.congr fun x y hx hy => mix_all up k x y hx hy⟩
              case measure => simp [intOf]; omega
        · have t2 : decide ((k : Int) < 6) = false := decide_eq_false (by omega)
          have hk : k = 6 := by omega
          subst hk
          have hTk := HTk.out
          go_wp2_with (first | (with_reducible refine wpList_load_row rfl 110 _ rfl (g + 1) rfl 110 (arr (tab up 6)) (0, 0) _ hTk.hT Tryd.underlying110 rfl (by rw [(zero_of_info infoT).2, arr_size]) ?_) | (with_reducible refine wpList_store_row rfl 110 _ _ rfl g (arr (tab up 6)) rfl rfl 110 (arr noT) hTk.hR (by rw [(zero_of_info infoT).2, arr_size]) (by rw [arr_size, arr_size]) (by simp [arr, Value.oneCell']) ?_))
          refine bodyPost_ret (v := .agg (arr (tab up 6))) (results_cell_row rfl _ _ g 110 (arr (tab up 6)) (0, 0) _ rfl (setRow_heap _ _ _ _ _ _ hTk.hR) Tryd.underlying110 rfl (by rw [(zero_of_info infoT).2, arr_size])) rfl ⟨rfl, ?_⟩
          rw [hgz.out]
          exact ⟨hTk.B.os, hTk.B.tape, hTk.B.output, by simpa [World.setRow] using hTk.B.size, fun i hi => (setRow_other _ _ _ _ (by have := hgz.out; omega)).trans (hTk.B.block i (by have := hgz.out; omega))⟩
end Go.Proofs.YtgibmlbdkijflaaDoor.Graph
