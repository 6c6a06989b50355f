/- A consumer's handle by counts from the start on: what it is told keeps it so; it never goes back. -/
import Derived.Test.YtkakgmpcenfjlaaGuardB
set_option linter.unusedVariables false
namespace Go.Proofs.Ytkakgmpcenfjlaa.Handle
open Go.RowKit
theorem u64_wrap (a : Int) : IntKind.u64.wrap a = a % 18446744073709551616 := by
  simp [IntKind.wrap, IntKind.bits, IntKind.signed]
theorem lead64 (st G U : Int) (h1 : -9223372036854775808 ≤ U - G) (h2 : U - G < 9223372036854775808) : d64 ((st + U) % 18446744073709551616) ((st + G) % 18446744073709551616) = U - G := by
  unfold d64 wrap64
  simp only [u64_wrap]
  omega
theorem plus64 (st G n : Int) : a64 ((st + G) % 18446744073709551616) n = (st + (G + n)) % 18446744073709551616 := by
  unfold a64
  simp only [u64_wrap]
  omega
theorem lead32 (st G U : Int) (h1 : -2147483648 ≤ U - G) (h2 : U - G < 2147483648) : d32 ((st + U) % 4294967296) ((st + G) % 4294967296) = U - G := by
  unfold d32 s32 wrap64 wrap32
  omega
theorem plus32 (st G n : Int) : a32 ((st + G) % 4294967296) n = (st + (G + n)) % 4294967296 := by
  unfold a32
  omega
/-- A consumer's handle whose gate is G, and which has seen up to U, from the start on. -/
structure Rel (M st cap : Int) (s : HS) (G U : Int) : Prop where
  hcap : s.cap = cap
  pr : s.pr = false
  held : s.held = false
  gate : s.gate = (st + G) % M
  upto : s.upto = (st + U) % M
  le : G ≤ U
  lead : U ≤ G + cap
theorem claimed_not {fr n : Int} {s : HS} (h : s.pr = false) : claimedF fr n s = (s, false) := by simp [claimedF, h]
theorem published_not {s : HS} (h : s.held = false) : publishedF s = (s, false) := by simp [publishedF, h]
theorem saw64_rel {st cap : Int} {s : HS} {G U n : Int} (h : Rel 18446744073709551616 st cap s G U) (hc : cap ≤ 1073741824) (h1 : -9223372036854775808 ≤ n) (h2 : n < 9223372036854775808) :
    saw64F (a64 s.gate n) s = (if U - G ≤ n ∧ n ≤ cap then ({ s with upto := (st + (G + n)) % 18446744073709551616 }, true) else (s, false)) := by
  obtain ⟨e1, e2, e3, e4, e5, e6, e7⟩ := h
  have l1 : d64 s.upto s.gate = U - G := by rw [e4, e5]; exact lead64 _ _ _ (by omega) (by omega)
  have l2 : d64 (a64 s.gate n) s.gate = n := by
    rw [e4, plus64, lead64 _ _ _ (by omega) (by omega)]
    omega
  unfold saw64F
  rw [l1, l2, e1]
  have e8 : a64 s.gate n = (st + (G + n)) % 18446744073709551616 := by rw [e4, plus64]
  rw [e8]
  by_cases c : U - G ≤ n ∧ n ≤ cap
  · rw [if_pos ⟨e2, c⟩, if_pos c]
  · rw [if_neg (fun h => c h.2), if_neg c]
theorem released64_rel {st cap : Int} {s : HS} {G U n : Int} (h : Rel 18446744073709551616 st cap s G U) (hc : cap ≤ 1073741824) :
    released64F n s = (if 1 ≤ n ∧ n ≤ U - G then ({ s with gate := (st + (G + n)) % 18446744073709551616 }, true) else (s, false)) := by
  obtain ⟨e1, e2, e3, e4, e5, e6, e7⟩ := h
  have l1 : d64 s.upto s.gate = U - G := by rw [e4, e5]; exact lead64 _ _ _ (by omega) (by omega)
  unfold released64F
  rw [l1, e4, plus64]
theorem saw32_rel {st cap : Int} {s : HS} {G U n : Int} (h : Rel 4294967296 st cap s G U) (hc : cap ≤ 1073741824) (h1 : -2147483648 ≤ n) (h2 : n < 2147483648) :
    saw32F (a32 s.gate n) s = (if U - G ≤ n ∧ n ≤ cap then ({ s with upto := (st + (G + n)) % 4294967296 }, true) else (s, false)) := by
  obtain ⟨e1, e2, e3, e4, e5, e6, e7⟩ := h
  have l1 : d32 s.upto s.gate = U - G := by rw [e4, e5]; exact lead32 _ _ _ (by omega) (by omega)
  have l2 : d32 (a32 s.gate n) s.gate = n := by
    rw [e4, plus32, lead32 _ _ _ (by omega) (by omega)]
    omega
  unfold saw32F
  rw [l1, l2, e1]
  have e8 : a32 s.gate n = (st + (G + n)) % 4294967296 := by rw [e4, plus32]
  rw [e8]
  by_cases c : U - G ≤ n ∧ n ≤ cap
  · rw [if_pos ⟨e2, c⟩, if_pos c]
  · rw [if_neg (fun h => c h.2), if_neg c]
theorem released32_rel {st cap : Int} {s : HS} {G U n : Int} (h : Rel 4294967296 st cap s G U) (hc : cap ≤ 1073741824) :
    released32F n s = (if 1 ≤ n ∧ n ≤ U - G then ({ s with gate := (st + (G + n)) % 4294967296 }, true) else (s, false)) := by
  obtain ⟨e1, e2, e3, e4, e5, e6, e7⟩ := h
  have l1 : d32 s.upto s.gate = U - G := by rw [e4, e5]; exact lead32 _ _ _ (by omega) (by omega)
  unfold released32F
  rw [l1, e4, plus32]
theorem great_rel {st cap : Int} {s : HS} {G U : Int} (d : DoS) (h : Rel 18446744073709551616 st cap s G U) (hc : cap ≤ 1073741824) (h1 : -9223372036854775808 ≤ d.n) (h2 : d.n < 9223372036854775808) :
    ∃ G' U', Rel 18446744073709551616 st cap (greatF d s).1 G' U' ∧ G ≤ G' ∧ U ≤ U' ∧ G' ≤ G + cap ∧ U' ≤ U + cap := by
  have h0 := h
  obtain ⟨e1, e2, e3, e4, e5, e6, e7⟩ := h
  unfold greatF
  by_cases k1 : d.kind = 1
  · rw [if_pos k1, claimed_not e2]
    exact ⟨G, U, h0, by omega, by omega, by omega, by omega⟩
  by_cases k2 : d.kind = 2
  · rw [if_neg k1, if_pos k2, published_not e3]
    exact ⟨G, U, h0, by omega, by omega, by omega, by omega⟩
  by_cases k3 : d.kind = 3
  · rw [if_neg k1, if_neg k2, if_pos k3, saw64_rel h0 hc h1 h2]
    by_cases c : U - G ≤ d.n ∧ d.n ≤ cap
    · rw [if_pos c]
      exact ⟨G, G + d.n, ⟨e1, e2, e3, e4, rfl, by omega, by omega⟩, by omega, by omega, by omega, by omega⟩
    · rw [if_neg c]
      exact ⟨G, U, h0, by omega, by omega, by omega, by omega⟩
  by_cases k4 : d.kind = 4
  · rw [if_neg k1, if_neg k2, if_neg k3, if_pos k4, released64_rel h0 hc]
    by_cases c : 1 ≤ d.n ∧ d.n ≤ U - G
    · rw [if_pos c]
      exact ⟨G + d.n, U, ⟨e1, e2, e3, rfl, e5, by omega, by omega⟩, by omega, by omega, by omega, by omega⟩
    · rw [if_neg c]
      exact ⟨G, U, h0, by omega, by omega, by omega, by omega⟩
  · rw [if_neg k1, if_neg k2, if_neg k3, if_neg k4]
    exact ⟨G, U, h0, by omega, by omega, by omega, by omega⟩
/-- What GuardForward asks of a step. -/
theorem forward {st cap : Int} {s : HS} {G U : Int} (d : DoS) (h : Rel 18446744073709551616 st cap s G U) (hc : cap ≤ 1073741824) (h1 : -9223372036854775808 ≤ d.n) (h2 : d.n < 9223372036854775808) :
    (∃ G' U', Rel 18446744073709551616 st cap (greatF d s).1 G' U') ∧ decide (d64 (greatF d s).1.gate s.gate < 0) = false ∧ decide (d64 (greatF d s).1.upto s.upto < 0) = false ∧ decide (d64 (greatF d s).1.upto (greatF d s).1.gate < 0) = false ∧ decide (cap < d64 (greatF d s).1.upto (greatF d s).1.gate) = false := by
  obtain ⟨G', U', r, a, b, c, e⟩ := great_rel d h hc h1 h2
  refine ⟨⟨G', U', r⟩, ?_, ?_, ?_, ?_⟩
  · rw [r.gate, h.gate, lead64 _ _ _ (by omega) (by omega)]
    exact decide_eq_false (by omega)
  · rw [r.upto, h.upto, lead64 _ _ _ (by omega) (by omega)]
    exact decide_eq_false (by omega)
  · have := r.le; have := r.lead
    rw [r.upto, r.gate, lead64 _ _ _ (by omega) (by omega)]
    exact decide_eq_false (by omega)
  · have := r.le; have := r.lead
    rw [r.upto, r.gate, lead64 _ _ _ (by omega) (by omega)]
    exact decide_eq_false (by omega)
end Go.Proofs.Ytkakgmpcenfjlaa.Handle
