/- The document's handle and the two of counters that go round stay alike, step by step. -/
import Derived.Test.YtkakgmpcenfjlaaGuardQ
set_option linter.unusedVariables false
set_option linter.unusedSimpArgs false
namespace Go.Proofs.Ytkakgmpcenfjlaa.Handle
open Go.RowKit
structure RelG (cap st : Int) (i : Nat) (m : RH) (sx sy : HS) : Prop where
  mc : m.cap = cap
  xc : sx.cap = cap
  yc : sy.cap = cap
  xp : sx.pr = m.pr
  yp : sy.pr = m.pr
  xh : sx.held = m.held
  yh : sy.held = m.held
  xn : sx.n = m.n
  yn : sy.n = m.n
  xf : sx.fr = m.fr % 4294967296
  yf : sy.fr = m.fr
  f0 : 0 ≤ m.fr
  ch : m.pr = false → m.held = false
  pz : m.pr = true → m.gate = 0 ∧ m.upto = 0 ∧ sx.gate = 0 ∧ sx.upto = 0 ∧ sy.gate = 0 ∧ sy.upto = 0
  cz : m.pr = false → sx.gate = (st + m.gate) % 4294967296 ∧ sx.upto = (st + m.upto) % 4294967296 ∧ sy.gate = (st + m.gate) % 18446744073709551616 ∧ sy.upto = (st + m.upto) % 18446744073709551616
  le : 0 ≤ m.gate ∧ m.gate ≤ m.upto ∧ m.upto ≤ m.gate + cap ∧ m.upto ≤ i * 1073741824
theorem RelG.later {cap st : Int} {i j : Nat} {m : RH} {sx sy : HS} (h : RelG cap st i m sx sy) (hj : i ≤ j) : RelG cap st j m sx sy := by
  have := h.le
  exact { h with le := ⟨this.1, this.2.1, this.2.2.1, by omega⟩ }
theorem w64 {x : Int} (h1 : -9223372036854775808 ≤ x) (h2 : x < 9223372036854775808) : wrap64 x = x := by unfold wrap64; omega
theorem RelG.d32 {cap st : Int} {i : Nat} {m : RH} {sx sy : HS} (h : RelG cap st i m sx sy) (hc : cap ≤ 1073741824) (hi : i ≤ 100) : d32 sx.upto sx.gate = wrap64 (m.upto - m.gate) := by
  have l := h.le
  cases hp : m.pr with
  | true =>
    obtain ⟨a, b, c, d, e, f⟩ := h.pz hp
    rw [a, b, c, d]
    decide +kernel
  | false =>
    obtain ⟨a, b, c, d⟩ := h.cz hp
    rw [a, b, lead32 _ _ _ (by omega) (by omega), w64 (by omega) (by omega)]
theorem RelG.d64 {cap st : Int} {i : Nat} {m : RH} {sx sy : HS} (h : RelG cap st i m sx sy) (hc : cap ≤ 1073741824) (hi : i ≤ 100) : d64 sy.upto sy.gate = wrap64 (m.upto - m.gate) := by
  have l := h.le
  cases hp : m.pr with
  | true =>
    obtain ⟨a, b, c, d, e, f⟩ := h.pz hp
    rw [a, b, e, f]
    decide +kernel
  | false =>
    obtain ⟨a, b, c, d⟩ := h.cz hp
    rw [c, d, lead64 _ _ _ (by omega) (by omega), w64 (by omega) (by omega)]
/-- A step keeps them alike, and all three tell the same. -/
theorem RelG.step {cap st : Int} {i : Nat} {m : RH} {sx sy : HS} (h : RelG cap st i m sx sy) (d : DoS) (hc : cap ≤ 1073741824) (hi : i < 100)
    (n1 : -9223372036854775808 ≤ d.n) (n2 : d.n < 9223372036854775808) (a0 : 0 ≤ d.at_) (hfar : d.kind = 3 → -1073741824 ≤ d.n ∧ d.n ≤ 1073741824) :
    RelG cap st (i + 1) (modelF d m).1 (smallF d sx).1 (greatF d sy).1 ∧ (smallF d sx).2 = (modelF d m).2 ∧ (greatF d sy).2 = (modelF d m).2 := by
  have l := h.le
  have hd := h.d32 hc (by omega)
  have hD := h.d64 hc (by omega)
  have same : RelG cap st (i + 1) m sx sy := h.later (by omega)
  have hw : wrap64 (m.upto - m.gate) = m.upto - m.gate := w64 (by omega) (by omega)
  unfold modelF smallF greatF
  by_cases k1 : d.kind = 1
  · rw [if_pos k1, if_pos k1, if_pos k1]
    unfold claimedF
    rw [h.xp, h.yp, h.xh, h.yh, h.xc, h.yc, h.mc]
    by_cases c : m.pr = true ∧ m.held = false ∧ sizeE cap d.n = 0
    · rw [if_pos c, if_pos c, if_pos c]
      exact ⟨{ same with xh := rfl, yh := rfl, xn := rfl, yn := rfl, xf := rfl, yf := rfl, f0 := a0, mc := rfl, xc := rfl, yc := rfl, xp := rfl, yp := rfl, ch := fun hp => by simp [c.1] at hp }, rfl, rfl⟩
    · rw [if_neg c, if_neg c, if_neg c]
      exact ⟨same, rfl, rfl⟩
  by_cases k2 : d.kind = 2
  · rw [if_neg k1, if_pos k2, if_neg k1, if_pos k2, if_neg k1, if_pos k2]
    unfold publishedF
    rw [h.xh, h.yh]
    by_cases c : m.held = true
    · rw [if_pos c, if_pos c, if_pos c]
      exact ⟨{ same with xh := rfl, yh := rfl, xn := rfl, yn := rfl, xf := rfl, yf := rfl, f0 := Int.le_refl 0, ch := fun _ => rfl }, rfl, rfl⟩
    · rw [if_neg c, if_neg c, if_neg c]
      exact ⟨same, rfl, rfl⟩
  by_cases k3 : d.kind = 3
  · rw [if_neg k1, if_neg k2, if_pos k3, if_neg k1, if_neg k2, if_pos k3, if_neg k1, if_neg k2, if_pos k3]
    obtain ⟨g1, g2⟩ := hfar k3
    cases hp : m.pr with
    | true =>
      have e1 : saw32F (a32 sx.gate d.n) sx = (sx, false) := by unfold saw32F; rw [if_neg (by rw [h.xp, hp]; simp)]
      have e2 : saw64F (a64 sy.gate d.n) sy = (sy, false) := by unfold saw64F; rw [if_neg (by rw [h.yp, hp]; simp)]
      rw [e1, e2, if_neg (by simp)]
      exact ⟨same, rfl, rfl⟩
    | false =>
      obtain ⟨a, b, c, e⟩ := h.cz hp
      have hh := h.ch hp
      have r1 : Rel 4294967296 st cap sx m.gate m.upto := ⟨h.xc, by rw [h.xp, hp], by rw [h.xh, hh], a, b, l.2.1, l.2.2.1⟩
      have r2 : Rel 18446744073709551616 st cap sy m.gate m.upto := ⟨h.yc, by rw [h.yp, hp], by rw [h.yh, hh], c, e, l.2.1, l.2.2.1⟩
      rw [saw32_rel r1 hc (by omega) (by omega), saw64_rel r2 hc (by omega) (by omega), hw, h.mc]
      by_cases q : m.upto - m.gate ≤ d.n ∧ d.n ≤ cap
      · rw [if_pos q, if_pos q, if_pos ⟨rfl, q⟩]
        have hw2 : wrap64 (m.gate + d.n) = m.gate + d.n := w64 (by omega) (by omega)
        rw [hw2]
        exact ⟨{ same with mc := rfl, xp := h.xp.trans hp, yp := h.yp.trans hp, ch := fun _ => hh, pz := fun h0 => Bool.noConfusion h0, cz := fun _ => ⟨a, rfl, c, rfl⟩, le := ⟨l.1, by show m.gate ≤ m.gate + d.n; omega, by show m.gate + d.n ≤ m.gate + cap; omega, by show m.gate + d.n ≤ _; omega⟩ }, rfl, rfl⟩
      · rw [if_neg q, if_neg q, if_neg (fun h0 => q h0.2)]
        exact ⟨same, rfl, rfl⟩
  by_cases k4 : d.kind = 4
  · rw [if_neg k1, if_neg k2, if_neg k3, if_pos k4, if_neg k1, if_neg k2, if_neg k3, if_pos k4, if_neg k1, if_neg k2, if_neg k3, if_pos k4]
    unfold released32F released64F
    rw [hd, hD, hw]
    by_cases q : 1 ≤ d.n ∧ d.n ≤ m.upto - m.gate
    · rw [if_pos q, if_pos q, if_pos q]
      have hw2 : wrap64 (m.gate + d.n) = m.gate + d.n := w64 (by omega) (by omega)
      rw [hw2]
      cases hp : m.pr with
      | true =>
        obtain ⟨a, b, _⟩ := h.pz hp
        omega
      | false =>
        obtain ⟨a, b, c, e⟩ := h.cz hp
        have hh := h.ch hp
        refine ⟨{ same with xp := h.xp.trans hp, yp := h.yp.trans hp, ch := fun _ => hh, pz := fun h0 => Bool.noConfusion h0, cz := fun _ => ⟨?_, b, ?_, e⟩, le := ⟨by show 0 ≤ m.gate + d.n; omega, by show m.gate + d.n ≤ m.upto; omega, by show m.upto ≤ m.gate + d.n + cap; omega, by have := same.le; exact this.2.2.2⟩ }, rfl, rfl⟩
        · show a32 sx.gate d.n = _
          rw [a, plus32]
        · show a64 sy.gate d.n = _
          rw [c, plus64]
    · rw [if_neg q, if_neg q, if_neg q]
      exact ⟨same, rfl, rfl⟩
  · rw [if_neg k1, if_neg k2, if_neg k3, if_neg k4, if_neg k1, if_neg k2, if_neg k3, if_neg k4, if_neg k1, if_neg k2, if_neg k3, if_neg k4]
    exact ⟨same, rfl, rfl⟩
theorem cut32 (a : Int) (h : 0 ≤ a) : QGm.sakiaref01_Cut.f 32 a = some (a % 4294967296) := by
  unfold QGm.sakiaref01_Cut.f
  rw [if_pos rfl, tmod32 a h]
theorem plusR32 (st G : Int) : QGm.sakiaref01_Plus.f 32 st G = some ((st + G) % 4294967296) := by
  unfold QGm.sakiaref01_Plus.f
  rw [u64_wrap, u64_wrap, cut32 _ (by omega)]
  simp only [Option.bind_some]
  congr 1
  omega
theorem plusR64 (st G : Int) : QGm.sakiaref01_Plus.f 64 st G = some ((st + G) % 18446744073709551616) := by
  unfold QGm.sakiaref01_Plus.f QGm.sakiaref01_Cut.f
  rw [u64_wrap, u64_wrap, if_neg (by decide), if_pos rfl]
  simp only [Option.bind_some]
  congr 1
  omega
end Go.Proofs.Ytkakgmpcenfjlaa.Handle
