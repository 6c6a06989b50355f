/- The document's handle beside the two of counters that go round: a step keeps them alike, and all tell the same. -/
import Derived.Test.YtkakgmpcenfjlaaGuardP
import Derived.Test.YtkakgmpcenfjlaaGuardA2
import Derived.Test.YtkakgmpcenfjlaaQGmx1
import Derived.Test.YtkakgmpcenfjlaaQGmx2
set_option linter.unusedVariables false
set_option linter.unusedSimpArgs false
namespace Go.Proofs.Ytkakgmpcenfjlaa.Handle
open Go.RowKit
def modelF (d : DoS) (m : RH) : RH × Bool :=
  if d.kind = 1 then (if m.pr = true ∧ m.held = false ∧ sizeE m.cap d.n = 0 then ({ m with held := true, fr := d.at_, n := d.n }, true) else (m, false))
  else if d.kind = 2 then (if m.held = true then ({ m with held := false, fr := 0, n := 0 }, true) else (m, false))
  else if d.kind = 3 then (if m.pr = false ∧ wrap64 (m.upto - m.gate) ≤ d.n ∧ d.n ≤ m.cap then ({ m with upto := wrap64 (m.gate + d.n) }, true) else (m, false))
  else if d.kind = 4 then (if 1 ≤ d.n ∧ d.n ≤ wrap64 (m.upto - m.gate) then ({ m with gate := wrap64 (m.gate + d.n) }, true) else (m, false))
  else (m, false)
theorem model_ok (d : DoS) (m : RH) (xs : List Int) :
    QGm.sakialaw14_model.f m.cap m.pr m.held m.fr m.n m.gate m.upto d.kind d.n d.at_ d.op d.cn xs
      = some ((modelF d m).1.cap, (modelF d m).1.pr, (modelF d m).1.held, (modelF d m).1.fr, (modelF d m).1.n, (modelF d m).1.gate, (modelF d m).1.upto, (modelF d m).2) := by
  obtain ⟨cap, pr, held, fr, n, g, u⟩ := m
  unfold modelF QGm.sakialaw14_model.f
  by_cases k1 : d.kind = 1
  · rw [if_pos k1, if_pos k1]
    unfold QGm.sakiaref14_Claimed.f sizeE
    cases pr <;> cases held <;> (try simp)
    by_cases c1 : d.n < 1
    · simp [c1, show ¬ (1 ≤ d.n ∧ d.n ≤ cap) by omega]
    · by_cases c2 : cap < d.n
      · simp [c1, c2, show ¬ (1 ≤ d.n ∧ d.n ≤ cap) by omega]
      · simp [c1, c2, show (1 ≤ d.n ∧ d.n ≤ cap) by omega]
  by_cases k2 : d.kind = 2
  · rw [if_neg k1, if_pos k2, if_neg k1, if_pos k2]
    unfold QGm.sakiaref14_Published.f
    cases held <;> simp
  by_cases k3 : d.kind = 3
  · rw [if_neg k1, if_neg k2, if_pos k3, if_neg k1, if_neg k2, if_pos k3]
    unfold QGm.sakiaref14_Saw.f
    cases pr
    · by_cases c1 : d.n < wrap64 (u - g)
      · simp [c1, show ¬ (wrap64 (u - g) ≤ d.n) by omega]
      · by_cases c2 : cap < d.n
        · simp [c1, c2, show ¬ (d.n ≤ cap) by omega]
        · simp [c1, c2, show wrap64 (u - g) ≤ d.n by omega, show d.n ≤ cap by omega]
    · simp
  by_cases k4 : d.kind = 4
  · rw [if_neg k1, if_neg k2, if_neg k3, if_pos k4, if_neg k1, if_neg k2, if_neg k3, if_pos k4]
    unfold QGm.sakiaref14_Released.f
    by_cases c1 : d.n < 1
    · simp [c1, show ¬ (1 ≤ d.n) by omega]
    · by_cases c2 : wrap64 (u - g) < d.n
      · simp [c1, c2, show ¬ (d.n ≤ wrap64 (u - g)) by omega]
      · simp [c1, c2, show 1 ≤ d.n by omega, show d.n ≤ wrap64 (u - g) by omega]
  · rw [if_neg k1, if_neg k2, if_neg k3, if_neg k4, if_neg k1, if_neg k2, if_neg k3, if_neg k4]
/-- What May tells of a handle that may read d. -/
def mayG (dd cap : Int) (pr held : Bool) (op n l : Int) : Int := if (op == 1 || op == 2 || op == 5) = pr then (if op = 5 then (if sizeE cap l = 0 then (if held = true then 14 else 0) else sizeE cap l) else if op = 1 then (if sizeE cap n = 0 then (if held = true then 14 else 0) else sizeE cap n) else if op = 2 then (if held = true then 0 else 14) else if op = 4 then (if n < 1 ∨ dd < n then 13 else 0) else if op = 6 then sizeE cap n else if op = 3 then 0 else 12) else 12
theorem may32_eq (s : HS) (op n l : Int) : may32E s op n l = mayG (d32 s.upto s.gate) s.cap s.pr s.held op n l := rfl
theorem may64_eq (s : HS) (op n l : Int) : may64E s op n l = mayG (d64 s.upto s.gate) s.cap s.pr s.held op n l := rfl
set_option maxHeartbeats 1000000 in
theorem refMay_ok (cap : Int) (pr held : Bool) (fr n g u op cn : Int) (xs : List Int) :
    QGm.sakiaref14_May.f 10 cap pr held fr n g u op cn xs = some (mayG (wrap64 (u - g)) cap pr held op cn (xs.length : Int)) := by
  unfold QGm.sakiaref14_May.f mayG sizeE
  by_cases o1 : op = 1
  · subst o1; cases pr <;> cases held <;> simp [QGm.sakiaref14_May.j0, QGm.sakiaref14_May.j1, QGm.sakiaref14_May.j2, QGm.sakiaref14_May.j3, QGm.sakiaref14_May.j4] <;> by_cases c1 : cn < 1 <;> by_cases c2 : cap < cn <;> simp [c1, c2]
  by_cases o2 : op = 2
  · subst o2; cases pr <;> cases held <;> simp [QGm.sakiaref14_May.j0, QGm.sakiaref14_May.j1, QGm.sakiaref14_May.j2, QGm.sakiaref14_May.j3, QGm.sakiaref14_May.j4]
  by_cases o3 : op = 3
  · subst o3; cases pr <;> cases held <;> simp [QGm.sakiaref14_May.j0, QGm.sakiaref14_May.j1, QGm.sakiaref14_May.j2, QGm.sakiaref14_May.j3, QGm.sakiaref14_May.j4]
  by_cases o4 : op = 4
  · subst o4; cases pr <;> cases held <;> simp [QGm.sakiaref14_May.j0, QGm.sakiaref14_May.j1, QGm.sakiaref14_May.j2, QGm.sakiaref14_May.j3, QGm.sakiaref14_May.j4] <;> by_cases c1 : cn < 1 <;> by_cases c2 : wrap64 (u - g) < cn <;> simp [c1, c2]
  by_cases o5 : op = 5
  · subst o5; cases pr <;> cases held <;> simp [QGm.sakiaref14_May.j0, QGm.sakiaref14_May.j1, QGm.sakiaref14_May.j2, QGm.sakiaref14_May.j3, QGm.sakiaref14_May.j4] <;> by_cases c1 : (xs.length : Int) < 1 <;> by_cases c2 : cap < (xs.length : Int) <;> simp [c1, c2]
  by_cases o6 : op = 6
  · subst o6; cases pr <;> cases held <;> simp [QGm.sakiaref14_May.j0, QGm.sakiaref14_May.j1, QGm.sakiaref14_May.j2, QGm.sakiaref14_May.j3, QGm.sakiaref14_May.j4] <;> by_cases c1 : cn < 1 <;> by_cases c2 : cap < cn <;> simp [c1, c2]
  cases pr <;> cases held <;> simp [o1, o2, o3, o4, o5, o6, QGm.sakiaref14_May.j0, QGm.sakiaref14_May.j1, QGm.sakiaref14_May.j2, QGm.sakiaref14_May.j3, QGm.sakiaref14_May.j4]
end Go.Proofs.Ytkakgmpcenfjlaa.Handle
