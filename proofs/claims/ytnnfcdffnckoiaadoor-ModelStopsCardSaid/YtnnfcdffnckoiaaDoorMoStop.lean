/- The walk of sakialaw29.ModelStops: for every configuration and events the call returns true, and what was in memory stays. Asked: the library's table lies as laid. -/
import Derived.Test.YtnnfcdffnckoiaaDoorMoNew
set_option linter.unusedVariables false
set_option linter.unusedSimpArgs false
set_option maxRecDepth 100000
namespace Go.Proofs.YtnnfcdffnckoiaaDoor.Mo
open Go.RowKit Go.Proofs.YtnnfcdffnckoiaaDoorW.PrintWords Go.Proofs.YtnnfcdffnckoiaaDoorW.PrintLast Go.Proofs.YtnnfcdffnckoiaaDoorW.PrintMore
open Graph (checkG Fine Gv endsI ref_ends fine_of ends_some Tabled ends_okR)
open QGc (checkC boundB)
open QCf (S44 k44)
/-- A model of the document whose configuration is this one. -/
def mk0 (v wd cp pr sa : Int) (A : Option Addr) (C : Nat) (up : List (List Int)) (A' : Option Addr) (C' : Nat) (L : List On) : Mp := { vr := v, wd := wd, cp := cp, pr := pr, sa := sa, U := A, un := up.length, uc := C, A := A', C := C', L := L }
/-- All events together, as the document goes through them: where it stands. -/
def StopAt (cx : Cx) (l : List Ev) (i : Nat) (at_ code_ : Int) (n : Nat) : Prop := Upto cx (st0 cx) l n ∧ ((i = n ∧ at_ = l.length ∧ code_ = 0) ∨ (i = n + 1 ∧ at_ = n ∧ code_ ≠ 0 ∧ ∃ h : n < l.length, code_ = code cx (stAt cx (st0 cx) l n) l[n]))
theorem stop_same {cx : Cx} {l : List Ev} {n n' : Nat} {c c' : Int} (h1 : Upto cx (st0 cx) l n) (h2 : (n = l.length ∧ c = 0) ∨ ∃ h : n < l.length, c = code cx (stAt cx (st0 cx) l n) l[n] ∧ c ≠ 0) (h3 : Upto cx (st0 cx) l n') (h4 : (n' = l.length ∧ c' = 0) ∨ ∃ h : n' < l.length, c' = code cx (stAt cx (st0 cx) l n') l[n'] ∧ c' ≠ 0) (hn : n ≤ l.length) (hn' : n' ≤ l.length) : n = n' ∧ c = c' := by
  have key : n = n' := by
    rcases Nat.lt_trichotomy n n' with h | h | h
    · rcases h2 with ⟨h5, _⟩ | ⟨hl, h5, h6⟩
      · omega
      · exact absurd (h5.trans (h3 n hl h)) h6
    · exact h
    · rcases h4 with ⟨h5, _⟩ | ⟨hl, h5, h6⟩
      · omega
      · exact absurd (h5.trans (h1 n' hl h)) h6
  subst key
  refine ⟨rfl, ?_⟩
  rcases h2 with ⟨h5, h6⟩ | ⟨hl, h5, h6⟩
  · rcases h4 with ⟨h7, h8⟩ | ⟨hl, _⟩
    · rw [h6, h8]
    · omega
  · rcases h4 with ⟨h7, h8⟩ | ⟨_, h7, _⟩
    · omega
    · rw [h5, h7]
theorem RS.far {base : Nat} {w : World} {m : Mp} {up : List (List Int)} {cx : Cx} {st : St} {i : Nat} (h : RS base w m up cx st i) {g t : Nat} {cs : Array Value} (hb : w.heap[g]? = some (.cells cs t (0, 0))) (ht : 102 ≠ t) (hg : base ≤ g) (j : Nat) (u : Value) : RS base (w.setCell ⟨g, j, none⟩ u) m up cx st i := { h with r := h.r.far hb ht hg j u }
/-- The box of the document's model is written anew. -/
theorem box7 {base : Nat} {w0 w : World} {X : Nat} {m : Mp} {up : List (List Int)} {cx : Cx} {st : St} {i : Nat} {a0 a1 a2 a3 a4 a5 a6 : Value} (h : RS base w m up cx st i) (hx : w.heap[X]? = some (.cells #[a0, a1, a2, a3, a4, a5, a6] 68 (0, 0))) (hb : Below w0.heap.size w0 w) (hX : w0.heap.size ≤ X) (hbase : base ≤ X) (v0 v1 v2 v3 v4 v5 v6 : Value) :
    ∃ W, W = (((((((w.setCell ⟨X, 0, none⟩ v0).setCell ⟨X, 1, none⟩ v1).setCell ⟨X, 2, none⟩ v2).setCell ⟨X, 3, none⟩ v3).setCell ⟨X, 4, none⟩ v4).setCell ⟨X, 5, none⟩ v5).setCell ⟨X, 6, none⟩ v6) ∧ RS base W m up cx st i ∧ W.heap[X]? = some (.cells #[v0, v1, v2, v3, v4, v5, v6] 68 (0, 0)) ∧ Below w0.heap.size w0 W := by
  refine ⟨_, rfl, ?_, (set7 v0 v1 v2 v3 v4 v5 v6 hb hX hx).1, (set7 v0 v1 v2 v3 v4 v5 v6 hb hX hx).2⟩
  have k0 := blk_put (cs' := #[v0, a1, a2, a3, a4, a5, a6]) hx 0 v0 rfl
  have k1 := blk_put (cs' := #[v0, v1, a2, a3, a4, a5, a6]) k0 1 v1 rfl
  have k2 := blk_put (cs' := #[v0, v1, v2, a3, a4, a5, a6]) k1 2 v2 rfl
  have k3 := blk_put (cs' := #[v0, v1, v2, v3, a4, a5, a6]) k2 3 v3 rfl
  have k4 := blk_put (cs' := #[v0, v1, v2, v3, v4, a5, a6]) k3 4 v4 rfl
  have k5 := blk_put (cs' := #[v0, v1, v2, v3, v4, v5, a6]) k4 5 v5 rfl
  exact ((((((h.far hx (by decide) hbase 0 v0).far k0 (by decide) hbase 1 v1).far k1 (by decide) hbase 2 v2).far k2 (by decide) hbase 3 v3).far k3 (by decide) hbase 4 v4).far k4 (by decide) hbase 5 v5).far k5 (by decide) hbase 6 v6
/-- While the document goes through all events. -/
structure LpS (w w6 wr : World) (X : Nat) (v wd cp pr sa : Int) (A : Option Addr) (C : Nat) (up : List (List Int)) (cx : Cx) (l : List Ev) (i n : Nat) (at_ code_ : Int) : Prop where
  s : StopAt cx l i at_ code_ n
  ln : n ≤ l.length
  r : ∃ A' C' L', RS w.heap.size wr (mk0 v wd cp pr sa A C up A' C' L') up cx (stAt cx (st0 cx) l n) i ∧ wr.heap[X]? = some (.cells #[.int .i64 v, .int .i64 wd, .int .i64 cp, .int .i64 pr, .int .u64 sa, .slice A up.length C, .slice A' L'.length C'] 68 (0, 0))
  b : Below w6.heap.size w6 wr
theorem LpS.le {w w6 wr : World} {X : Nat} {v wd cp pr sa : Int} {A : Option Addr} {C : Nat} {up : List (List Int)} {cx : Cx} {l : List Ev} {i n : Nat} {at_ code_ : Int} (h : LpS w w6 wr X v wd cp pr sa A C up cx l i n at_ code_) : i ≤ l.length := by
  have := h.ln
  rcases h.s.2 with ⟨h1, _⟩ | ⟨h1, _, _, h2, _⟩ <;> omega
theorem LpS.fin {w w6 wr : World} {X : Nat} {v wd cp pr sa : Int} {A : Option Addr} {C : Nat} {up : List (List Int)} {cx : Cx} {l : List Ev} {i n : Nat} {at_ code_ : Int} (h : LpS w w6 wr X v wd cp pr sa A C up cx l i n at_ code_) (hs : ¬ (i < l.length ∧ code_ = 0)) : at_ = n ∧ ((n = l.length ∧ code_ = 0) ∨ ∃ h : n < l.length, code_ = code cx (stAt cx (st0 cx) l n) l[n] ∧ code_ ≠ 0) := by
  have hn := h.ln
  rcases h.s.2 with ⟨h1, h2, h3⟩ | ⟨h1, h2, h3, h4, h5⟩
  · have : n = l.length := by
      have : ¬ i < l.length := fun h => hs ⟨h, h3⟩
      omega
    exact ⟨by omega, .inl ⟨this, h3⟩⟩
  · exact ⟨h2, .inr ⟨h4, h5, h3⟩⟩
theorem LpS.go {w w6 wr : World} {X : Nat} {v wd cp pr sa : Int} {A : Option Addr} {C : Nat} {up : List (List Int)} {cx : Cx} {l : List Ev} {i n : Nat} {at_ code_ : Int} (h : LpS w w6 wr X v wd cp pr sa A C up cx l i n at_ code_) (hs : code_ = 0) : i = n ∧ at_ = l.length := by
  rcases h.s.2 with ⟨h1, h2, h3⟩ | ⟨h1, h2, h3, _⟩
  · exact ⟨h1, h2⟩
  · exact absurd hs h3
/-- An event of a row, read. -/
def EvAt (w : World) (ad : Addr) (i : Nat) (e : Ev) (Bd : Option Addr) (bc : Nat) : Prop := w.cell? (ad.add (i * 7)) = some (.int .i64 e.kind) ∧ w.cell? ⟨(ad.add (i * 7)).block, (ad.add (i * 7)).off + 1, none⟩ = some (.int .i64 e.thread) ∧ w.cell? ⟨(ad.add (i * 7)).block, (ad.add (i * 7)).off + 2, none⟩ = some (.int .i64 e.op) ∧ w.cell? ⟨(ad.add (i * 7)).block, (ad.add (i * 7)).off + 3, none⟩ = some (.int .i64 e.n) ∧ w.cell? ⟨(ad.add (i * 7)).block, (ad.add (i * 7)).off + 4, none⟩ = some (.int .u64 e.pos) ∧ w.cell? ⟨(ad.add (i * 7)).block, (ad.add (i * 7)).off + 5, none⟩ = some (.int .i64 e.code) ∧ w.cell? ⟨(ad.add (i * 7)).block, (ad.add (i * 7)).off + 6, none⟩ = some (.slice Bd e.data.length bc)
theorem EvAt.below {w w' : World} {ad : Addr} {i : Nat} {e : Ev} {Bd : Option Addr} {bc : Nat} (h : EvAt w ad i e Bd bc) (b : Below w.heap.size w w') : EvAt w' ad i e Bd bc := by
  obtain ⟨c0, c1, c2, c3, c4, c5, c6⟩ := h
  have go : ∀ {p : Addr} {v : Value}, w.cell? p = some v → w'.cell? p = some v := fun hp => (b.cell (World.block_lt_of_cell? _ _ hp)).trans hp
  exact ⟨go c0, go c1, go c2, go c3, go c4, go c5, go c6⟩
structure RP0 (base : Nat) (w W : World) (v wd cp pr sa : Int) (A : Option Addr) (C : Nat) (up : List (List Int)) (cx : Cx) (st : St) (e : Ev) (i : Nat) (r : Ending) : Prop where mk ::
  out : ∃ A2 C2 L2, r = .returned (.tuple #[.agg #[.int .i64 v, .int .i64 wd, .int .i64 cp, .int .i64 pr, .int .u64 sa, .slice A up.length C, .slice A2 L2.length C2], .int .i64 (code cx st e)]) ∧ RS base W (mk0 v wd cp pr sa A C up A2 C2 L2) up cx (step cx st e) (i + 1) ∧ Below w.heap.size w W
theorem rapply0 (base : Nat) (w : World) (v wd cp pr sa : Int) (A : Option Addr) (C : Nat) (up : List (List Int)) (A' : Option Addr) (C' : Nat) (L' : List On) (cx : Cx) (st : St) (i : Nat) (h : RS base w (mk0 v wd cp pr sa A C up A' C' L') up cx st i) (hi : i < 200) (hb : base ≤ w.heap.size) (e : Ev) (Bd : Option Addr) (bc : Nat) (he : U64 e.pos) (ht : I64 e.thread) (hd : e.data.length ≤ 100000) (hdc : e.data.length ≤ bc) (hdf : Kd.F (Kd.int .i64) w (fun q => q < base) Bd e.data.length e.data) :
    Calls Tryd.prog 35 #[.agg #[.int .i64 v, .int .i64 wd, .int .i64 cp, .int .i64 pr, .int .u64 sa, .slice A up.length C, .slice A' L'.length C'], .agg #[.int .i64 e.kind, .int .i64 e.thread, .int .i64 e.op, .int .i64 e.n, .int .u64 e.pos, .int .i64 e.code, .slice Bd e.data.length bc]] w fun r W => RP0 base w W v wd cp pr sa A C up cx st e i r :=
  (rapply base w (mk0 v wd cp pr sa A C up A' C' L') up cx st i h hi hb e Bd bc he ht hd hdc hdf).mono fun r W ⟨⟨A2, C2, n2, hr, ⟨L2, hn, hs⟩, hB⟩⟩ => by
    subst hn
    exact ⟨⟨A2, C2, L2, hr, hs, hB⟩⟩
set_option maxHeartbeats 16000000 in
theorem walkStops (w : World) (v wd cp pr sa : Int) (A : Option Addr) (C : Nat) (up : List (List Int)) (hup : Kd.C (Kd.slice 3 (Kd.int .i64)) w A up.length up) (hC : up.length ≤ C) (hsa : U64 sa) (AE : Option Addr) (CE : Nat) (l0 : List S44) (hl : Kd.C k44 w AE l0.length l0) (hCE : l0.length ≤ CE) (hok : ∀ x ∈ l0, I64 x.f1 ∧ I64 x.f3 ∧ U64 x.f4) (hT : Tabled w) :
    Calls Tryd.prog 6 #[.agg #[.int .i64 v, .int .i64 wd, .int .i64 cp, .int .i64 pr, .int .u64 sa, .slice A up.length C], .slice AE l0.length CE] w fun r W => Yes w W r := by
  have hb0 := below_alloc (Below.refl w.heap.size w) (.cells #[.int .i64 v, .int .i64 wd, .int .i64 cp, .int .i64 pr, .int .u64 sa, .slice A up.length C] 25)
  obtain ⟨bs, hbs⟩ := evs_of hl
  obtain ⟨b1, hs1, hc1⟩ := long09 (Kd.C_below hup hb0) hC
  have HBS := Aside.mk hbs
  have HT := Aside.mk hT
  have HS1 := Aside.mk hs1
  have HC1 := Aside.mk hc1
  have HIN := Aside.mk (And.intro hup (And.intro hC (And.intro hsa (And.intro hl (And.intro hCE hok)))))
  have HB := Aside.mk hb0
  have HY := Aside.mk (heap_alloc_new w (.cells #[.int .i64 v, .int .i64 wd, .int .i64 cp, .int .i64 pr, .int .u64 sa, .slice A up.length C] 25))
  clear hb0 hbs hs1 hc1 hup hC hsa hl hCE hok hT
  go_enter Tryd.func6, Tryd.ntmps6
  go_upto_region 1 with (fail)
  generalize w.alloc (.cells #[.int .i64 v, .int .i64 wd, .int .i64 cp, .int .i64 pr, .int .u64 sa, .slice A up.length C] 25) = w2 at *
  obtain ⟨y0, y1, y2, y3, y4, y5⟩ := cell6 HY.out
  go_wp2_with fail
  refine HC1.out.mono ?_
  rintro r w3 ⟨rfl, hb⟩
  replace HB := Aside.mk (below_low hb HB.out)
  replace HY := Aside.mk (blk_below HY.out hb)
  clear hb HC1 y0 y1 y2 y3 y4 y5
  cases b1 with
  | true =>
    obtain ⟨y0, y1, y2, y3, y4, y5⟩ := cell6 HY.out
    go_wp2_with fail
    refine (live_ _ (HT.out.below HB.out)).mono ?_
    rintro r W ⟨rfl, hb⟩
    go_wp2
    go_ret
    exact ⟨rfl, below_low hb HB.out⟩
  | false =>
    have HSM := Aside.mk (HS1.out rfl)
    obtain ⟨b2, hs2, hc2⟩ := long15 60 (by decide) (w := w3) (Kd.C_below HIN.out.2.2.2.1 HB.out) HIN.out.2.2.2.2.1
    have HS2 := Aside.mk hs2
    have HC2 := Aside.mk hc2
    clear hs2 hc2
    obtain ⟨y0, y1, y2, y3, y4, y5⟩ := cell6 HY.out
    go_wp2_with fail
    refine HC2.out.mono ?_
    rintro r w4 ⟨rfl, hb⟩
    replace HB := Aside.mk (below_low hb HB.out)
    replace HY := Aside.mk (blk_below HY.out hb)
    clear hb HC2 y0 y1 y2 y3 y4 y5
    cases b2 with
    | true =>
      obtain ⟨y0, y1, y2, y3, y4, y5⟩ := cell6 HY.out
      go_wp2_with fail
      refine (live_ _ (HT.out.below HB.out)).mono ?_
      rintro r W ⟨rfl, hb⟩
      go_wp2
      go_ret
      exact ⟨rfl, below_low hb HB.out⟩
    | false =>
      have HSL := Aside.mk (HS2.out rfl)
      have HG := Aside.mk (show Gv w A C up from ⟨HIN.out.1, HIN.out.2.1, HSM.out⟩)
      clear HS1 HS2
      obtain ⟨y0, y1, y2, y3, y4, y5⟩ := cell6 HY.out
      go_wp2_with fail
      refine (right10 (HG.out.below HB.out)).mono ?_
      rintro r w5 ⟨rfl, hb⟩
      replace HB := Aside.mk (below_low hb HB.out)
      replace HY := Aside.mk (blk_below HY.out hb)
      clear hb y0 y1 y2 y3 y4 y5
      by_cases hck : checkC v wd cp pr up = 0
      rotate_left
      · have t1 : (checkC v wd cp pr up == 0) = false := by simpa using hck
        clear hck
        go_wp2_with fail
        refine (live_ _ (HT.out.below HB.out)).mono ?_
        rintro r W ⟨rfl, hb⟩
        go_wp2
        go_ret
        exact ⟨rfl, below_low hb HB.out⟩
      have t1 : (checkC v wd cp pr up == 0) = true := by rw [hck]; rfl
      have HCK := Aside.mk hck
      obtain ⟨cx, HCX⟩ : ∃ cx, Aside (CxOk v wd cp pr sa up cx) := ⟨_, ⟨cxOf_ok HSM.out hck⟩⟩
      have HNEW := Aside.mk (pnew w w5 HB.out v wd cp pr sa A C up (HG.out.below HB.out) hck HIN.out.2.2.1 (HT.out.below HB.out) cx HCX.out)
      clear hck
      obtain ⟨y0, y1, y2, y3, y4, y5⟩ := cell6 HY.out
      go_wp2_with fail
      refine HNEW.out.mono ?_
      rintro r w6 ⟨⟨B, k, rfl, hMM, hown, hb⟩⟩
      have HMM := Aside.mk hMM
      have HOW := Aside.mk (show ∀ q, Own k B q → w.heap.size ≤ q from fun q hq => Nat.le_trans HB.out.size (hown q hq))
      replace HB := Aside.mk (below_low hb HB.out)
      replace HY := Aside.mk (blk_below HY.out hb)
      clear hb hMM hown y0 y1 y2 y3 y4 y5 t1 HNEW
      obtain ⟨y0, y1, y2, y3, y4, y5⟩ := cell6 HY.out
      go_upto_region 5 with (fail)
      have hbx := below_alloc (Below.refl w6.heap.size w6) (.cells #[.int .i64 v, .int .i64 wd, .int .i64 cp, .int .i64 pr, .int .u64 sa, .slice A up.length C, .slice none 0 0] 68)
      have HX := Aside.mk (heap_alloc_new w6 (.cells #[.int .i64 v, .int .i64 wd, .int .i64 cp, .int .i64 pr, .int .u64 sa, .slice A up.length C, .slice none 0 0] 68))
      obtain ⟨X, hX⟩ : ∃ X, X = w6.heap.size := ⟨_, rfl⟩
      rw [← hX] at HX ⊢
      have HXG := Aside.mk (show w.heap.size ≤ X by rw [hX]; exact HB.out.size)
      have HXH := Aside.mk (show w6.heap.size ≤ X by omega)
      have HMB := Aside.mk (show Below w6.heap.size w6 (w6.alloc (.cells #[.int .i64 v, .int .i64 wd, .int .i64 cp, .int .i64 pr, .int .u64 sa, .slice A up.length C, .slice none 0 0] 68)) from hbx)
      have HRS := Aside.mk (rs0 HCX.out HG.out HIN.out.2.2.1 (below_low hbx HB.out))
      have HB6 := HB
      replace HB := Aside.mk (below_low hbx HB.out)
      clear hbx hX y0 y1 y2 y3 y4 y5 HY
      generalize w6.alloc (.cells #[.int .i64 v, .int .i64 wd, .int .i64 cp, .int .i64 pr, .int .u64 sa, .slice A up.length C, .slice none 0 0] 68) = w7 at *
      go_wp2_with fail
      go_loopw [8, 9, 10] (fun a c x wr => ∃ (i n : Nat) (at_ code_ : Int), x = .int .i64 (i : Int) ∧ a = .int .i64 at_ ∧ c = .int .i64 code_ ∧ Aside (LpS w w6 wr X v wd cp pr sa A C up cx (l0.map evOf) i n at_ code_)) (fun _ _ x _ => l0.length + 1 - (intOf x).toNat)
      case atStart => exact ⟨0, 0, _, _, rfl, rfl, rfl, ⟨⟨⟨fun j h hj => absurd hj (Nat.not_lt_zero _), .inl ⟨rfl, by simp, rfl⟩⟩, Nat.zero_le _, ⟨none, 0, [], HRS.out, HX.out⟩, HMB.out⟩⟩⟩
      case round =>
        obtain ⟨i, n, at_, code_, rfl, rfl, rfl, HL⟩ := hrel
        clear HX HMB HRS HB
        by_cases hgo : i < l0.length ∧ code_ = 0
        rotate_left
        · have HF := Aside.mk (HL.out.fin (by rw [List.length_map]; exact hgo))
          by_cases hlt : i < l0.length
          · have t1 : decide ((i : Int) < (l0.length : Int)) = true := decide_eq_true (by omega)
            have t2 : decide (i < l0.length) = true := decide_eq_true hlt
            have t3 : (code_ == 0) = false := by
              have : code_ ≠ 0 := fun h => hgo ⟨hlt, h⟩
              simpa using this
            clear hgo hlt
            obtain ⟨A', C', L', hRS, hX⟩ := HL.out.r
            have HRS := Aside.mk hRS
            have HX := Aside.mk hX
            have HWB := Aside.mk (below_low HL.out.b HB6.out)
            have HMR := Aside.mk (HMM.out.below HL.out.b)
            have HUP := Aside.mk HL.out.s.1
            have HLN := Aside.mk HL.out.ln
            have HLB := Aside.mk HL.out.b
            have HALL := pall w wr HWB.out B k cx (st0 cx) HMR.out AE CE (l0.map evOf) bs (by rw [List.length_map]; have := HSL.out.1; omega) (fun W hW => HBS.out W (fun q hq => (hW q (fun ho => by have := HOW.out q ho; omega) (Nat.lt_of_lt_of_le hq HWB.out.size)).trans (HWB.out.block q hq))) (fun e he => by
              obtain ⟨x, hx, rfl⟩ := List.mem_map.1 he
              obtain ⟨h1, h2, h3⟩ := HIN.out.2.2.2.2.2 x hx
              exact ⟨h1, h2, h3, Nat.le_trans (HSL.out.2 x hx) (by decide)⟩) (fun n hn hu => by
              have h60 : (l0.map evOf).length ≤ 60 := by rw [List.length_map]; exact HSL.out.1
              obtain ⟨L, hI⟩ := inv_upto HCX.out.c64 n hn (by omega) hu
              exact hI.good (by omega))
            rw [List.length_map] at HALL
            have HAL := Aside.mk HALL
            clear HALL hRS hX HL
            go_wp2_with fail
            clear t1 t2
            refine HAL.out.mono ?_
            rintro r wz ⟨⟨n', c', hn', hu', rfl, hres', hm'⟩⟩
            obtain ⟨e1, e2⟩ := stop_same HUP.out HF.out.2 hu' hres' HLN.out hn'
            subst e1 e2
            have hat := HF.out.1
            subst hat
            obtain ⟨k3, hM3, hT3, hN3⟩ := hm'
            have HXZ := Aside.mk ((hT3.p X (blk_lt HX.out) (fun ho => by have := own_lt_ HMM.out ho; have := HXH.out; omega)).trans HX.out)
            have HAK := Aside.mk (alike_ wz B k3 (mk0 v wd cp pr sa A C up A' C' L') up cx _ hM3.r (HRS.out.kept HMR.out hT3).ok)
            have HBZ := Aside.mk hT3.b
            clear hn' hu' hres' hM3 hT3 hN3 HAL HRS HX HMR HF HUP HLN HLB
            obtain ⟨x0, x1, x2, x3, x4, x5, x6⟩ := cell7 HXZ.out
            go_wp2_with fail
            refine HAK.out.mono ?_
            rintro r wy ⟨rfl, hb⟩
            replace HBZ := Aside.mk (below_low hb HBZ.out)
            clear hb HAK x0 x1 x2 x3 x4 x5 x6
            go_wp2_with fail
            refine (live_ _ (HT.out.below HBZ.out)).mono ?_
            rintro r W ⟨rfl, hb⟩
            go_wp2
            go_ret
            exact ⟨rfl, below_low hb HBZ.out⟩
          · have t1 : decide ((i : Int) < (l0.length : Int)) = false := decide_eq_false (by omega)
            have t2 : decide (i < l0.length) = false := decide_eq_false hlt
            clear hgo hlt
            obtain ⟨A', C', L', hRS, hX⟩ := HL.out.r
            have HRS := Aside.mk hRS
            have HX := Aside.mk hX
            have HWB := Aside.mk (below_low HL.out.b HB6.out)
            have HMR := Aside.mk (HMM.out.below HL.out.b)
            have HUP := Aside.mk HL.out.s.1
            have HLN := Aside.mk HL.out.ln
            have HLB := Aside.mk HL.out.b
            have HALL := pall w wr HWB.out B k cx (st0 cx) HMR.out AE CE (l0.map evOf) bs (by rw [List.length_map]; have := HSL.out.1; omega) (fun W hW => HBS.out W (fun q hq => (hW q (fun ho => by have := HOW.out q ho; omega) (Nat.lt_of_lt_of_le hq HWB.out.size)).trans (HWB.out.block q hq))) (fun e he => by
              obtain ⟨x, hx, rfl⟩ := List.mem_map.1 he
              obtain ⟨h1, h2, h3⟩ := HIN.out.2.2.2.2.2 x hx
              exact ⟨h1, h2, h3, Nat.le_trans (HSL.out.2 x hx) (by decide)⟩) (fun n hn hu => by
              have h60 : (l0.map evOf).length ≤ 60 := by rw [List.length_map]; exact HSL.out.1
              obtain ⟨L, hI⟩ := inv_upto HCX.out.c64 n hn (by omega) hu
              exact hI.good (by omega))
            rw [List.length_map] at HALL
            have HAL := Aside.mk HALL
            clear HALL hRS hX HL
            go_wp2_with fail
            clear t1 t2
            refine HAL.out.mono ?_
            rintro r wz ⟨⟨n', c', hn', hu', rfl, hres', hm'⟩⟩
            obtain ⟨e1, e2⟩ := stop_same HUP.out HF.out.2 hu' hres' HLN.out hn'
            subst e1 e2
            have hat := HF.out.1
            subst hat
            obtain ⟨k3, hM3, hT3, hN3⟩ := hm'
            have HXZ := Aside.mk ((hT3.p X (blk_lt HX.out) (fun ho => by have := own_lt_ HMM.out ho; have := HXH.out; omega)).trans HX.out)
            have HAK := Aside.mk (alike_ wz B k3 (mk0 v wd cp pr sa A C up A' C' L') up cx _ hM3.r (HRS.out.kept HMR.out hT3).ok)
            have HBZ := Aside.mk hT3.b
            clear hn' hu' hres' hM3 hT3 hN3 HAL HRS HX HMR HF HUP HLN HLB
            obtain ⟨x0, x1, x2, x3, x4, x5, x6⟩ := cell7 HXZ.out
            go_wp2_with fail
            refine HAK.out.mono ?_
            rintro r wy ⟨rfl, hb⟩
            replace HBZ := Aside.mk (below_low hb HBZ.out)
            clear hb HAK x0 x1 x2 x3 x4 x5 x6
            go_wp2_with fail
            refine (live_ _ (HT.out.below HBZ.out)).mono ?_
            rintro r W ⟨rfl, hb⟩
            go_wp2
            go_ret
            exact ⟨rfl, below_low hb HBZ.out⟩
        obtain ⟨hlt, rfl⟩ := hgo
        obtain ⟨rfl, hat⟩ := HL.out.go rfl
        subst hat
        have t1 : decide ((i : Int) < (l0.length : Int)) = true := decide_eq_true (by omega)
        have t2 : decide (i < l0.length) = true := decide_eq_true hlt
        have t3 : (i : Int) < (l0.length : Int) := by omega
        have HLT := Aside.mk hlt
        have hm : i < (l0.map evOf).length := by rw [List.length_map]; exact hlt
        have HUP := Aside.mk HL.out.s.1
        obtain ⟨A', C', L', hRS, hX⟩ := HL.out.r
        have HRS := Aside.mk hRS
        have HX := Aside.mk hX
        have HMB := Aside.mk HL.out.b
        have HWB := Aside.mk (below_low HMB.out HB6.out)
        obtain ⟨ad, rfl, ⟨e0, e1, e2, e3, e4, e5, e6⟩, hdc, hdd⟩ := HBS.out wr (fun q hq => HWB.out.block q hq) i (by rw [List.length_map]; exact hlt)
        have HSU := Aside.mk (stAt_succ (cx := cx) (st := st0 cx) (l := l0.map evOf) (i := i) (by rw [List.length_map]; exact hlt))
        have HEK := Aside.mk (show I64 ((l0.map evOf)[i]'hm).thread ∧ U64 ((l0.map evOf)[i]'hm).pos ∧ ((l0.map evOf)[i]'hm).data.length ≤ 100 from by
          simp only [List.getElem_map]
          exact ⟨(HIN.out.2.2.2.2.2 _ (List.getElem_mem hlt)).1, (HIN.out.2.2.2.2.2 _ (List.getElem_mem hlt)).2.2, HSL.out.2 _ (List.getElem_mem hlt)⟩)
        have HCO := Aside.mk (fun (hc : code cx (stAt cx (st0 cx) (l0.map evOf) i) ((l0.map evOf)[i]'hm) = 0) => (show Upto cx (st0 cx) (l0.map evOf) (i + 1) from fun j h hj => by
          by_cases hji : j < i
          · exact HUP.out j h hji
          · obtain rfl : j = i := by omega
            exact hc))
        have HCN := Aside.mk (fun (cc : Int) (h1 : cc = code cx (stAt cx (st0 cx) (l0.map evOf) i) ((l0.map evOf)[i]'hm)) (h2 : cc ≠ 0) => (show StopAt cx (l0.map evOf) (i + 1) (i : Int) cc i from ⟨HUP.out, .inr ⟨rfl, rfl, h2, by rw [List.length_map]; exact hlt, h1⟩⟩))
        have ei := Mo.i1 (show i < 4611686018427387904 by have := HSL.out.1; omega)
        have HHB := Aside.mk (show Kd.F (Kd.int .i64) wr (fun q => q < w.heap.size) (bs i).1 ((l0.map evOf)[i]'hm).data.length ((l0.map evOf)[i]'hm).data from fun W hW => by
          obtain ⟨_, _, _, _, h9⟩ := HBS.out W (fun q hq => (hW q hq (Nat.lt_of_lt_of_le hq HWB.out.size)).trans (HWB.out.block q hq)) i (by rw [List.length_map]; exact hlt)
          exact h9)
        generalize hst : stAt cx (st0 cx) (l0.map evOf) i = sti at *
        have HST := Aside.mk hst
        generalize hee : (l0.map evOf)[i]'hm = e at *
        generalize hbi : bs i = bi at *
        obtain ⟨Bd, bc⟩ := bi
        simp only at e6 hdc hdd HHB
        have HDC := Aside.mk hdc
        have HI200 := Aside.mk (show i < 200 by have := HLT.out; have := HSL.out.1; omega)
        have HDL := Aside.mk (show e.data.length ≤ 100000 by have := HEK.out.2.2; omega)
        have HEV := Aside.mk (show EvAt wr ad i e Bd bc from ⟨e0, e1, e2, e3, e4, e5, e6⟩)
        clear hst hee hbi hdc hdd hRS hX HL e0 e1 e2 e3 e4 e5 e6
        obtain ⟨x0, x1, x2, x3, x4, x5, x6⟩ := cell7 HX.out
        go_wp2_with fail
        clear t1 t2 t3 x0 x1 x2 x3 x4 x5 x6
        refine start_ (n := 12) (S := fun w' => w'.cell? ⟨X, 0, none⟩ = some (.int .i64 v) ∧ w'.cell? ⟨X, 1, none⟩ = some (.int .i64 wd) ∧ w'.cell? ⟨X, 2, none⟩ = some (.int .i64 cp) ∧ w'.cell? ⟨X, 3, none⟩ = some (.int .i64 pr) ∧ w'.cell? ⟨X, 4, none⟩ = some (.int .u64 sa) ∧ w'.cell? ⟨X, 5, none⟩ = some (.slice A up.length C) ∧ w'.cell? ⟨X, 6, none⟩ = some (.slice A' L'.length C') ∧ w'.cell? (ad.add (i * 7)) = some (.int .i64 e.kind) ∧ w'.cell? ⟨(ad.add (i * 7)).block, (ad.add (i * 7)).off + 1, none⟩ = some (.int .i64 e.thread) ∧ w'.cell? ⟨(ad.add (i * 7)).block, (ad.add (i * 7)).off + 2, none⟩ = some (.int .i64 e.op) ∧ w'.cell? ⟨(ad.add (i * 7)).block, (ad.add (i * 7)).off + 3, none⟩ = some (.int .i64 e.n) ∧ w'.cell? ⟨(ad.add (i * 7)).block, (ad.add (i * 7)).off + 4, none⟩ = some (.int .u64 e.pos) ∧ w'.cell? ⟨(ad.add (i * 7)).block, (ad.add (i * 7)).off + 5, none⟩ = some (.int .i64 e.code) ∧ w'.cell? ⟨(ad.add (i * 7)).block, (ad.add (i * 7)).off + 6, none⟩ = some (.slice Bd e.data.length bc) ∧ True) (ds := [10]) #[false, false, false, false, false, false, false, false, false, false, false, false] (by kernel_rfl) rfl rfl ⟨(blk_cell (blk_drew HX.out) 0).trans rfl, (blk_cell (blk_drew HX.out) 1).trans rfl, (blk_cell (blk_drew HX.out) 2).trans rfl, (blk_cell (blk_drew HX.out) 3).trans rfl, (blk_cell (blk_drew HX.out) 4).trans rfl, (blk_cell (blk_drew HX.out) 5).trans rfl, (blk_cell (blk_drew HX.out) 6).trans rfl, (HEV.out.below (below_drew1 (Below.refl _ _))).1, (HEV.out.below (below_drew1 (Below.refl _ _))).2.1, (HEV.out.below (below_drew1 (Below.refl _ _))).2.2.1, (HEV.out.below (below_drew1 (Below.refl _ _))).2.2.2.1, (HEV.out.below (below_drew1 (Below.refl _ _))).2.2.2.2.1, (HEV.out.below (below_drew1 (Below.refl _ _))).2.2.2.2.2.1, (HEV.out.below (below_drew1 (Below.refl _ _))).2.2.2.2.2.2, trivial⟩ (fun hHeld => ?_)
        have hbd := below_drew1 (Below.refl wr.heap.size wr)
        have HD := Aside.mk hbd
        replace HX := Aside.mk (blk_drew HX.out)
        replace HRS := Aside.mk (HRS.out.below hbd)
        replace HEV := Aside.mk (HEV.out.below hbd)
        replace HHB := Aside.mk (Kd.F_below HHB.out hbd)
        have HSZ := Aside.mk (Nat.le_trans HWB.out.size hbd.size)
        clear hbd
        generalize wr.drew = wa at *
        refine take_ (i := 0) (N := some 48) (v := ?_) (a' := ?_) #[true, false, false, false, false, false, false, false, false, false, false, false] rfl rfl (by kernel_rfl) (fun _ _ _ h => h) (Or.inl ⟨by rfl, ?_⟩) hHeld ?_ ?_
        rotate_left
        · rintro w' ⟨s0, s1, s2, s3, s4, s5, s6, s7, s8, s9, s10, s11, s12, s13, s14⟩
          go_simp
          with_reducible rfl
        rotate_left
        · simp only [Act.put, List.setIfInBounds_toArray, List.set_cons_zero, List.set_cons_succ, i64_w, i32_w]
          rfl
        refine pure_ (i := 1) (N := some 49) (v := ?_) (a' := ?_) #[true, true, false, false, false, false, false, false, false, false, false, false] rfl rfl (by kernel_rfl) (fun _ _ _ h => h) (Or.inl ⟨by rfl, ?_⟩) ?_ ?_
        rotate_left
        · intro w'
          go_simp
          with_reducible rfl
        rotate_left
        · simp only [Act.put, List.setIfInBounds_toArray, List.set_cons_zero, List.set_cons_succ, i64_w, i32_w]
          rfl
        refine pure_ (i := 2) (N := some 50) (v := ?_) (a' := ?_) #[true, true, true, false, false, false, false, false, false, false, false, false] rfl rfl (by kernel_rfl) (fun _ _ _ h => h) (Or.inl ⟨by rfl, ?_⟩) ?_ ?_
        rotate_left
        · intro w'
          go_simp
          with_reducible rfl
        rotate_left
        · simp only [Act.put, List.setIfInBounds_toArray, List.set_cons_zero, List.set_cons_succ, i64_w, i32_w]
          rfl
        refine pure_ (i := 3) (N := some 51) (v := ?_) (a' := ?_) #[true, true, true, true, false, false, false, false, false, false, false, false] rfl rfl (by kernel_rfl) (fun _ _ _ h => h) (Or.inl ⟨by rfl, ?_⟩) ?_ ?_
        rotate_left
        · intro w'
          go_simp
          with_reducible rfl
        rotate_left
        · simp only [Act.put, List.setIfInBounds_toArray, List.set_cons_zero, List.set_cons_succ, i64_w, i32_w]
          rfl
        refine take_ (i := 4) (N := some 52) (v := ?_) (a' := ?_) #[true, true, true, true, true, false, false, false, false, false, false, false] rfl rfl (by kernel_rfl) (fun _ _ _ h => h) (Or.inl ⟨by rfl, ?_⟩) hHeld ?_ ?_
        rotate_left
        · rintro w' ⟨s0, s1, s2, s3, s4, s5, s6, s7, s8, s9, s10, s11, s12, s13, s14⟩
          go_simp
          with_reducible rfl
        rotate_left
        · simp only [Act.put, List.setIfInBounds_toArray, List.set_cons_zero, List.set_cons_succ, i64_w, i32_w]
          rfl
        refine join_ (σ := Nat × Option Addr × Nat × List On) 2 #[true, true, true, true, true, true, true, true, true, true, false, false] (fun s => [(53, .tuple #[.agg #[.int .i64 v, .int .i64 wd, .int .i64 cp, .int .i64 pr, .int .u64 sa, .slice A up.length C, .slice s.2.1 s.2.2.2.length s.2.2.1], .int .i64 (code cx sti e)]), (47, .tuple #[.agg #[.int .i64 v, .int .i64 wd, .int .i64 cp, .int .i64 pr, .int .u64 sa, .slice A up.length C, .slice s.2.1 s.2.2.2.length s.2.2.1], .int .i64 (code cx sti e)]), (54, .agg #[.int .i64 v, .int .i64 wd, .int .i64 cp, .int .i64 pr, .int .u64 sa, .slice A up.length C, .slice s.2.1 s.2.2.2.length s.2.2.1]), (55, .int .i64 (code cx sti e)), (11, .pointer (some ⟨s.1, 0, none⟩))]) (fun s wb => wa.heap.size ≤ s.1 ∧ wb.heap[s.1]? = some (.cells #[.int .i64 0, .int .i64 0, .int .i64 0, .int .i64 0, .int .u64 0, .slice none 0 0, .slice none 0 0] 68 (0, 0)) ∧ RS w.heap.size wb (mk0 v wd cp pr sa A C up s.2.1 s.2.2.1 s.2.2.2) up cx (step cx sti e) (i + 1) ∧ Below wa.heap.size wa wb) (fun s wb hF => ?cont) (fun J => ?orders)
        case orders =>
          refine two_ (i := 5) (j := 9) (Ni := some 53) (Nj := some 11) #[true, true, true, true, true, true, false, false, false, false, false, false] #[true, true, true, true, true, false, false, false, false, true, false, false] rfl rfl rfl rfl (by kernel_rfl) (by decide) (by decide) (fun K hK => ?_) (fun K hK => ?_)
          ·
            refine goes_ Tryd.func35 (by kernel_rfl) rfl #[.agg #[.int .i64 v, .int .i64 wd, .int .i64 cp, .int .i64 pr, .int .u64 sa, .slice A up.length C, .slice A' L'.length C'], .agg #[.int .i64 e.kind, .int .i64 e.thread, .int .i64 e.op, .int .i64 e.n, .int .u64 e.pos, .int .i64 e.code, .slice Bd e.data.length bc]] (by rfl) rfl rfl (by (try simp only [List.map_toArray, List.map_cons, List.map_nil]); first | done | rfl) ?_
            with_reducible refine (rapply0 w.heap.size wa v wd cp pr sa A C up A' C' L' cx sti i HRS.out HI200.out HSZ.out e Bd bc HEK.out.2.1 HEK.out.1 HDL.out HDC.out HHB.out).mono ?_
            rintro q wn ⟨⟨A2, C2, L2, rfl, hrs, hb⟩⟩
            refine ⟨_, rfl, ?_⟩
            have hx2 := blk_below HX.out hb
            have he2 := EvAt.below HEV.out hb
            refine hK.out _ _ ⟨(blk_cell hx2 0).trans rfl, (blk_cell hx2 1).trans rfl, (blk_cell hx2 2).trans rfl, (blk_cell hx2 3).trans rfl, (blk_cell hx2 4).trans rfl, (blk_cell hx2 5).trans rfl, (blk_cell hx2 6).trans rfl, he2.1, he2.2.1, he2.2.2.1, he2.2.2.2.1, he2.2.2.2.2.1, he2.2.2.2.2.2.1, he2.2.2.2.2.2.2, trivial⟩ (fun hHeld => ?_)
            clear hK K
            refine norm_ (a' := ?_) ?_ ?_
            rotate_left
            · show Act.put _ (some 53) _ = _
              simp only [Act.put, List.setIfInBounds_toArray, List.set_cons_zero, List.set_cons_succ, i64_w, i32_w]
              rfl
            refine pure_ (i := 6) (N := some 47) (v := ?_) (a' := ?_) #[true, true, true, true, true, true, true, false, false, false, false, false] rfl rfl (by kernel_rfl) (fun _ _ _ h => h) (Or.inl ⟨by rfl, ?_⟩) ?_ ?_
            rotate_left
            · intro w'
              go_simp
              with_reducible rfl
            rotate_left
            · simp only [Act.put, List.setIfInBounds_toArray, List.set_cons_zero, List.set_cons_succ, i64_w, i32_w]
              rfl
            refine pure_ (i := 7) (N := some 54) (v := ?_) (a' := ?_) #[true, true, true, true, true, true, true, true, false, false, false, false] rfl rfl (by kernel_rfl) (fun _ _ _ h => h) (Or.inl ⟨by rfl, ?_⟩) ?_ ?_
            rotate_left
            · intro w'
              go_simp
              with_reducible rfl
            rotate_left
            · simp only [Act.put, List.setIfInBounds_toArray, List.set_cons_zero, List.set_cons_succ, i64_w, i32_w]
              rfl
            refine pure_ (i := 8) (N := some 55) (v := ?_) (a' := ?_) #[true, true, true, true, true, true, true, true, true, false, false, false] rfl rfl (by kernel_rfl) (fun _ _ _ h => h) (Or.inl ⟨by rfl, ?_⟩) ?_ ?_
            rotate_left
            · intro w'
              go_simp
              with_reducible rfl
            rotate_left
            · simp only [Act.put, List.setIfInBounds_toArray, List.set_cons_zero, List.set_cons_succ, i64_w, i32_w]
              rfl
            refine one_ (i := 9) (N := some 11) #[true, true, true, true, true, true, true, true, true, true, false, false] rfl rfl (by kernel_rfl) (by decide) (fun K hK => ?_)
            refine value_ (v := .pointer (some ⟨wn.heap.size, 0, none⟩)) (w1 := wn.alloc (.cells #[.int .i64 0, .int .i64 0, .int .i64 0, .int .i64 0, .int .u64 0, .slice none 0 0, .slice none 0 0] 68)) (by rfl) rfl ?_ ?_
            · go_simp
            have hb2 := below_alloc (Below.refl wn.heap.size wn) (.cells #[.int .i64 0, .int .i64 0, .int .i64 0, .int .i64 0, .int .u64 0, .slice none 0 0, .slice none 0 0] 68)
            have hx3 := blk_below hx2 hb2
            have he3 := he2.below hb2
            refine hK.out _ _ ⟨(blk_cell hx3 0).trans rfl, (blk_cell hx3 1).trans rfl, (blk_cell hx3 2).trans rfl, (blk_cell hx3 3).trans rfl, (blk_cell hx3 4).trans rfl, (blk_cell hx3 5).trans rfl, (blk_cell hx3 6).trans rfl, he3.1, he3.2.1, he3.2.2.1, he3.2.2.2.1, he3.2.2.2.2.1, he3.2.2.2.2.2.1, he3.2.2.2.2.2.2, trivial⟩ (fun hHeld => ?_)
            exact J (wn.heap.size, A2, C2, L2) _ ⟨hb.size, heap_alloc_new _ _, hrs.below hb2, hb.trans (hb2.mono hb.size)⟩
          ·
            refine value_ (v := .pointer (some ⟨wa.heap.size, 0, none⟩)) (w1 := wa.alloc (.cells #[.int .i64 0, .int .i64 0, .int .i64 0, .int .i64 0, .int .u64 0, .slice none 0 0, .slice none 0 0] 68)) (by rfl) rfl ?_ ?_
            · go_simp
            have hb2 := below_alloc (Below.refl wa.heap.size wa) (.cells #[.int .i64 0, .int .i64 0, .int .i64 0, .int .i64 0, .int .u64 0, .slice none 0 0, .slice none 0 0] 68)
            have hN := heap_alloc_new wa (.cells #[.int .i64 0, .int .i64 0, .int .i64 0, .int .i64 0, .int .u64 0, .slice none 0 0, .slice none 0 0] 68)
            have hx3 := blk_below HX.out hb2
            have he3 := HEV.out.below hb2
            refine hK.out _ _ ⟨(blk_cell hx3 0).trans rfl, (blk_cell hx3 1).trans rfl, (blk_cell hx3 2).trans rfl, (blk_cell hx3 3).trans rfl, (blk_cell hx3 4).trans rfl, (blk_cell hx3 5).trans rfl, (blk_cell hx3 6).trans rfl, he3.1, he3.2.1, he3.2.2.1, he3.2.2.2.1, he3.2.2.2.2.1, he3.2.2.2.2.2.1, he3.2.2.2.2.2.2, trivial⟩ (fun hHeld => ?_)
            generalize wa.alloc (.cells #[.int .i64 0, .int .i64 0, .int .i64 0, .int .i64 0, .int .u64 0, .slice none 0 0, .slice none 0 0] 68) = wq at *
            clear hK K
            refine norm_ (a' := ?_) ?_ ?_
            rotate_left
            · show Act.put _ (some 11) _ = _
              simp only [Act.put, List.setIfInBounds_toArray, List.set_cons_zero, List.set_cons_succ, i64_w, i32_w]
              rfl
            refine one_ (i := 5) (N := some 53) #[true, true, true, true, true, true, false, false, false, true, false, false] rfl rfl (by kernel_rfl) (by decide) (fun K hK => ?_)
            refine goes_ Tryd.func35 (by kernel_rfl) rfl #[.agg #[.int .i64 v, .int .i64 wd, .int .i64 cp, .int .i64 pr, .int .u64 sa, .slice A up.length C, .slice A' L'.length C'], .agg #[.int .i64 e.kind, .int .i64 e.thread, .int .i64 e.op, .int .i64 e.n, .int .u64 e.pos, .int .i64 e.code, .slice Bd e.data.length bc]] (by rfl) rfl rfl (by (try simp only [List.map_toArray, List.map_cons, List.map_nil]); first | done | rfl) ?_
            with_reducible refine (rapply0 w.heap.size wq v wd cp pr sa A C up A' C' L' cx sti i (HRS.out.below hb2) HI200.out (Nat.le_trans HSZ.out hb2.size) e Bd bc HEK.out.2.1 HEK.out.1 HDL.out HDC.out (Kd.F_below HHB.out hb2)).mono ?_
            rintro q wn ⟨⟨A2, C2, L2, rfl, hrs, hb⟩⟩
            refine ⟨_, rfl, ?_⟩
            have hx2 := blk_below hx3 hb
            have he2 := EvAt.below he3 hb
            refine hK.out _ _ ⟨(blk_cell hx2 0).trans rfl, (blk_cell hx2 1).trans rfl, (blk_cell hx2 2).trans rfl, (blk_cell hx2 3).trans rfl, (blk_cell hx2 4).trans rfl, (blk_cell hx2 5).trans rfl, (blk_cell hx2 6).trans rfl, he2.1, he2.2.1, he2.2.2.1, he2.2.2.2.1, he2.2.2.2.2.1, he2.2.2.2.2.2.1, he2.2.2.2.2.2.2, trivial⟩ (fun hHeld => ?_)
            clear hK K
            refine norm_ (a' := ?_) ?_ ?_
            rotate_left
            · show Act.put _ (some 53) _ = _
              simp only [Act.put, List.setIfInBounds_toArray, List.set_cons_zero, List.set_cons_succ, i64_w, i32_w]
              rfl
            refine pure_ (i := 6) (N := some 47) (v := ?_) (a' := ?_) #[true, true, true, true, true, true, true, false, false, true, false, false] rfl rfl (by kernel_rfl) (fun _ _ _ h => h) (Or.inl ⟨by rfl, ?_⟩) ?_ ?_
            rotate_left
            · intro w'
              go_simp
              with_reducible rfl
            rotate_left
            · simp only [Act.put, List.setIfInBounds_toArray, List.set_cons_zero, List.set_cons_succ, i64_w, i32_w]
              rfl
            refine pure_ (i := 7) (N := some 54) (v := ?_) (a' := ?_) #[true, true, true, true, true, true, true, true, false, true, false, false] rfl rfl (by kernel_rfl) (fun _ _ _ h => h) (Or.inl ⟨by rfl, ?_⟩) ?_ ?_
            rotate_left
            · intro w'
              go_simp
              with_reducible rfl
            rotate_left
            · simp only [Act.put, List.setIfInBounds_toArray, List.set_cons_zero, List.set_cons_succ, i64_w, i32_w]
              rfl
            refine pure_ (i := 8) (N := some 55) (v := ?_) (a' := ?_) #[true, true, true, true, true, true, true, true, true, true, false, false] rfl rfl (by kernel_rfl) (fun _ _ _ h => h) (Or.inl ⟨by rfl, ?_⟩) ?_ ?_
            rotate_left
            · intro w'
              go_simp
              with_reducible rfl
            rotate_left
            · simp only [Act.put, List.setIfInBounds_toArray, List.set_cons_zero, List.set_cons_succ, i64_w, i32_w]
              rfl
            exact J (wa.heap.size, A2, C2, L2) _ ⟨Nat.le_refl _, blk_below hN hb, hrs, hb2.trans (hb.mono hb2.size)⟩
        case cont =>
          obtain ⟨b, A2, C2, L2⟩ := s
          obtain ⟨hF1, hF2, hF3, hF4⟩ := hF
          simp only at hF1 hF2 hF3
          obtain ⟨w8, hw8, hR8, hb8, hB8⟩ := box7 hF3 hF2 hF4 hF1 (Nat.le_trans HSZ.out hF1) (.int .i64 v) (.int .i64 wd) (.int .i64 cp) (.int .i64 pr) (.int .u64 sa) (.slice A up.length C) (.slice A2 L2.length C2)
          obtain ⟨d0, d1, d2, d3, d4, d5, d6⟩ := cell7 hF2
          have fz0 := blk_frozen hF2 0
          have fz1 := blk_frozen hF2 1
          have fz2 := blk_frozen hF2 2
          have fz3 := blk_frozen hF2 3
          have fz4 := blk_frozen hF2 4
          have fz5 := blk_frozen hF2 5
          have fz6 := blk_frozen hF2 6
          refine norm_ (a' := ?_) ?_ ?_
          rotate_left
          · simp only [putAll, Act.put, List.setIfInBounds_toArray, List.set_cons_zero, List.set_cons_succ, i64_w, i32_w]
            rfl
          refine last_ (i := 10) (N := none) #[true, true, true, true, true, true, true, true, true, true, true, false] rfl rfl (by kernel_rfl) (by decide) (fun K hK => ?_)
          refine skip_ (w1 := ?_) (by rfl) rfl ?_ ?_
          rotate_left
          · go_simp
            rfl
          refine hK.out _ _ ?_
          clear hK K
          rw [← hw8]
          refine pure_ (i := 11) (N := some 12) (v := ?_) (a' := ?_) #[true, true, true, true, true, true, true, true, true, true, true, true] rfl rfl (by kernel_rfl) (fun _ _ _ h => h) (Or.inl ⟨by rfl, ?_⟩) ?_ ?_
          rotate_left
          · intro w'
            go_simp
            with_reducible rfl
          rotate_left
          · simp only [Act.put, List.setIfInBounds_toArray, List.set_cons_zero, List.set_cons_succ, i64_w, i32_w]
            rfl
          refine done_ (by kernel_rfl) ?_
          have HX8 := Aside.mk (blk_below HX.out hB8)
          have HR8 := Aside.mk hR8
          have HB8 := Aside.mk hB8
          have Hb8 := Aside.mk hb8
          clear hw8 hR8 hb8 hB8 hF1 hF2 hF3 hF4 d0 d1 d2 d3 d4 d5 d6 fz0 fz1 fz2 fz3 fz4 fz5 fz6
          obtain ⟨x0, x1, x2, x3, x4, x5, x6⟩ := cell7 HX8.out
          obtain ⟨d0, d1, d2, d3, d4, d5, d6⟩ := cell7 Hb8.out
          have fz0 := blk_frozen HX8.out 0
          have fz1 := blk_frozen HX8.out 1
          have fz2 := blk_frozen HX8.out 2
          have fz3 := blk_frozen HX8.out 3
          have fz4 := blk_frozen HX8.out 4
          have fz5 := blk_frozen HX8.out 5
          have fz6 := blk_frozen HX8.out 6
          go_upto_region 11 with (fail)
          obtain ⟨w9, hw9, hR9, hx9, hB9⟩ := box7 (w0 := w6) HR8.out HX8.out (HMB.out.trans ((HD.out.trans (HB8.out.mono HD.out.size)).mono HMB.out.size)) HXH.out HXG.out (.int .i64 v) (.int .i64 wd) (.int .i64 cp) (.int .i64 pr) (.int .u64 sa) (.slice A up.length C) (.slice A2 L2.length C2)
          rw [← hw9]
          have HR9 := Aside.mk hR9
          have HX9 := Aside.mk hx9
          have HB9 := Aside.mk hB9
          clear hw9 hR9 hx9 hB9 x0 x1 x2 x3 x4 x5 x6 d0 d1 d2 d3 d4 d5 d6 fz0 fz1 fz2 fz3 fz4 fz5 fz6 HX HRS HR8 HX8 HB8 Hb8 HMB
          by_cases hcd : code cx sti e = 0
          · have t4 : (code cx sti e != 0) = false := by rw [hcd]; rfl
            have HC := Aside.mk hcd
            have HSP := Aside.mk (show step cx sti e = next cx sti e by unfold step; rw [if_pos hcd])
            clear hcd
            go_wp2_with fail
            go_roundw
            case rel => exact ⟨i + 1, i + 1, _, _, by first | rfl | simp, rfl, by first | rfl | exact congrArg (Value.int .i64) HC.out, ⟨⟨⟨HCO.out HC.out, .inl ⟨rfl, rfl, rfl⟩⟩, by rw [List.length_map]; exact HLT.out, ⟨A2, C2, L2, by rw [HSU.out, ← HSP.out]; exact HR9.out, HX9.out⟩, HB9.out⟩⟩⟩
            case measure =>
              simp only [intOf, tn1, Int.toNat_natCast]
              have := HLT.out
              omega
          · have t4 : (code cx sti e != 0) = true := by simpa using hcd
            have HC := Aside.mk hcd
            have HSP := Aside.mk (show step cx sti e = sti by unfold step; rw [if_neg hcd])
            clear hcd
            go_wp2_with fail
            go_roundw
            case rel => exact ⟨i + 1, i, _, _, by first | rfl | simp, rfl, rfl, ⟨⟨HCN.out _ rfl HC.out, by rw [List.length_map]; exact Nat.le_of_lt HLT.out, ⟨A2, C2, L2, by rw [HST.out, ← HSP.out]; exact HR9.out, HX9.out⟩, HB9.out⟩⟩⟩
            case measure =>
              simp only [intOf, tn1, Int.toNat_natCast]
              have := HLT.out
              omega
end Go.Proofs.YtnnfcdffnckoiaaDoor.Mo
