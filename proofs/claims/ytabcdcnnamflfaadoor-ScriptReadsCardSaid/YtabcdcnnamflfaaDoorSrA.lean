/- Plain laws of a script's acts: what the lines after the first are read as, and what is told of them. No program in sight. -/
import Derived.Test.YtabcdcnnamflfaaDoorScD
import Derived.Test.YtabcdcnnamflfaaDoorScE
set_option linter.unusedVariables false
set_option linter.unusedSimpArgs false
namespace Go.Proofs.YtabcdcnnamflfaaDoor.Wd
open Go
structure PS where
  acts : List Ac
  last : Int
  more : Bool
def stepL (st : PS) (l : List UInt8) : Option PS :=
  if resA l = false then none
  else if (4096 : Int) - st.acts.length < cntA l then none
  else if st.more = true ∧ (valA l).op = 0 ∧ (valA l).thread = st.last then none
  else some ⟨st.acts ++ List.replicate (cntA l).toNat (valA l), (valA l).thread, decide ((valA l).op = 0) && decide (cntA l < 1000)⟩
def codeL (st : PS) (l : List UInt8) : Int := if resA l = false then 20 else if (4096 : Int) - st.acts.length < cntA l then 21 else 20
def runL : PS → List (List UInt8) → Option PS
  | st, [] => some st
  | st, l :: r => (stepL st l).bind fun s => runL s r
def ps0 : PS := ⟨[], 0, false⟩
theorem runL_append (a b : List (List UInt8)) : ∀ st, runL st (a ++ b) = (runL st a).bind fun s => runL s b := by
  induction a with
  | nil => intro st; rfl
  | cons l r ih =>
    intro st
    simp only [List.cons_append, runL]
    cases stepL st l with
    | none => rfl
    | some s => exact ih s
theorem runL_one (st : PS) (l : List UInt8) : runL st [l] = stepL st l := by
  simp only [runL]
  cases stepL st l <;> rfl
theorem runL_succ (st : PS) (ls : List (List UInt8)) (i : Nat) (h : i < ls.length) : runL st (ls.take (i + 1)) = (runL st (ls.take i)).bind fun s => stepL s ls[i] := by
  rw [List.take_succ_eq_append_getElem h, runL_append]
  congr
  funext s
  exact runL_one s _
theorem cntA_one {l : List UInt8} (h : resA l = true) : 1 ≤ cntA l ∧ cntA l ≤ 1000 ∧ ((valA l).op ≠ 0 → cntA l = 1) := by
  have hr := act_read_line h
  have hc : cleanA (valA l) = true := by
    cases hc : cleanA (valA l) with
    | true => rfl
    | false =>
      have e : actT (valA l) (cntA l) = [] := by unfold actT; rw [if_neg (by rw [hc]; decide)]
      rw [e] at hr
      subst hr
      exact absurd h (by decide)
  have h2 : 1 ≤ cntA l := by
    have hg : cntA l = actN (wordsOf l) := by unfold cntA; rw [if_pos h]
    have hb : actG (wordsOf l) = true := by
      have := h; unfold resA at this; simp only [Bool.and_eq_true] at this; exact this.2
    rw [hg]
    exact (act_back hb).2.2.1
  have h3 := (valA_ok l).2.2.2
  refine ⟨h2, h3, fun hop => ?_⟩
  have := (act_shown (valA_ok l).1 (cntA l) h2 h3).2 hc
  rw [hr, if_neg hop] at this
  exact this.2
theorem stepL_some {st s : PS} {l : List UInt8} (h : stepL st l = some s) : resA l = true ∧ s.acts = st.acts ++ List.replicate (cntA l).toNat (valA l) ∧ s.last = (valA l).thread ∧ s.more = (decide ((valA l).op = 0) && decide (cntA l < 1000)) ∧ (st.acts.length : Int) + cntA l ≤ 4096 ∧ (st.more = true → ¬ ((valA l).op = 0 ∧ (valA l).thread = st.last)) := by
  unfold stepL at h
  split at h
  · cases h
  split at h
  · cases h
  split at h
  · cases h
  next h1 h2 h3 =>
    injection h with h
    subst h
    exact ⟨by simpa using h1, rfl, rfl, rfl, by omega, fun hm hb => h3 ⟨hm, hb⟩⟩
theorem run_ext : ∀ (ls : List (List UInt8)) (b s : PS), runL b ls = some s → ∃ rest, s.acts = b.acts ++ rest ∧ ((ls = [] ∧ rest = []) ∨ ∃ x r, rest = x :: r ∧ (b.more = true → ¬ (x.op = 0 ∧ x.thread = b.last)))
  | [], b, s, h => by
    injection h with h
    subst h
    exact ⟨[], by simp, .inl ⟨rfl, rfl⟩⟩
  | l :: r, b, s, h => by
    simp only [runL] at h
    cases hs : stepL b l with
    | none => rw [hs] at h; cases h
    | some c =>
      rw [hs] at h
      obtain ⟨rest, h1, _⟩ := run_ext r c s h
      obtain ⟨g1, g2, _, _, _, g6⟩ := stepL_some hs
      obtain ⟨k, hk⟩ : ∃ k, (cntA l).toNat = k + 1 := ⟨(cntA l).toNat - 1, by have := (cntA_one g1).1; omega⟩
      refine ⟨valA l :: (List.replicate k (valA l) ++ rest), ?_, .inr ⟨_, _, rfl, g6⟩⟩
      rw [h1, g2, hk, List.replicate_succ]
      simp
theorem run_block {ls : List (List UInt8)} {st s : PS} (h : runL st ls = some s) (j : Nat) (hj : j < ls.length) : ∃ a, runL st (ls.take j) = some a ∧ resA ls[j] = true ∧ ∃ rest, s.acts = a.acts ++ (List.replicate (cntA ls[j]).toNat (valA ls[j]) ++ rest) ∧ ((j + 1 = ls.length ∧ rest = []) ∨ ∃ x r, rest = x :: r ∧ (cntA ls[j] < 1000 → (valA ls[j]).op = 0 → ¬ (x.op = 0 ∧ x.thread = (valA ls[j]).thread))) := by
  have e : ls = ls.take (j + 1) ++ ls.drop (j + 1) := (List.take_append_drop _ _).symm
  have h' := h
  rw [e, runL_append, runL_succ st ls j hj] at h'
  cases ha : runL st (ls.take j) with
  | none => rw [ha] at h'; cases h'
  | some a =>
    rw [ha] at h'
    simp only [Option.bind_some] at h'
    cases hb : stepL a ls[j] with
    | none => rw [hb] at h'; cases h'
    | some b =>
      rw [hb] at h'
      simp only [Option.bind_some] at h'
      obtain ⟨g1, g2, g3, g4, _, _⟩ := stepL_some hb
      obtain ⟨rest, h1, h2⟩ := run_ext _ b s h'
      refine ⟨a, rfl, g1, rest, by rw [h1, g2, List.append_assoc], ?_⟩
      rcases h2 with ⟨h2, h3⟩ | ⟨x, r, h2, h3⟩
      · refine .inl ⟨?_, h3⟩
        have := congrArg List.length h2
        simp at this
        omega
      · refine .inr ⟨x, r, h2, fun hc ho => ?_⟩
        have hm : b.more = true := by rw [g4, decide_eq_true hc, decide_eq_true ho]; rfl
        rw [← g3]
        exact h3 hm
theorem run_pre {ls : List (List UInt8)} {st s : PS} (h : runL st ls = some s) (j : Nat) : ∃ a, runL st (ls.take j) = some a := by
  have h' := h
  rw [← List.take_append_drop j ls, runL_append] at h'
  cases ha : runL st (ls.take j) with
  | none => rw [ha] at h'; cases h'
  | some a => exact ⟨a, rfl⟩
theorem run_few : ∀ (ls : List (List UInt8)) (b s : PS), b.acts.length ≤ 4096 → runL b ls = some s → s.acts.length ≤ 4096
  | [], b, s, hb, h => by injection h with h; subst h; exact hb
  | l :: r, b, s, hb, h => by
    simp only [runL] at h
    cases hs : stepL b l with
    | none => rw [hs] at h; cases h
    | some c =>
      rw [hs] at h
      obtain ⟨g1, g2, _, _, g5, _⟩ := stepL_some hs
      have := (cntA_one g1).1
      refine run_few r c s ?_ h
      rw [g2, List.length_append, List.length_replicate]
      omega
/-- The next line falls out. -/
theorem stepL_none {st : PS} {l : List UInt8} (h : stepL st l = none) : codeL st l = 20 ∨ codeL st l = 21 := by
  unfold codeL
  split
  · exact .inl rfl
  split
  · exact .inr rfl
  · exact .inl rfl
end Go.Proofs.YtabcdcnnamflfaaDoor.Wd
/- Acts in a row that one made oneself; what Parse answers, in plain words. -/
set_option linter.unusedVariables false
set_option linter.unusedSimpArgs false
set_option maxRecDepth 100000
namespace Go.Proofs.YtabcdcnnamflfaaDoor.Wd
open Go.RowKit Go.Proofs.YtabcdcnnamflfaaDoorW.PrintWords Go.Proofs.YtabcdcnnamflfaaDoorW.PrintLast Go.Proofs.YtabcdcnnamflfaaDoorW.PrintMore
theorem info50 : (Tryd.prog.info? 50).map (fun i => (i.zero, i.size, i.bytes)) = some (some (.agg #[.int .i64 0, .int .i64 0, .int .i64 0, .slice none 0 0]), 4, 48) := by kernel_rfl
def cellsA (x : Ac) (A : Option Addr) (c : Nat) : List Value := [.int .i64 x.thread, .int .i64 x.op, .int .i64 x.n, .slice A x.data.length c]
/-- Acts in a row that one made oneself. -/
def OutA (w : World) (base : Nat) (v : Value) (xs : List Ac) : Prop := ∃ rows : List (List Value), rows.length = xs.length ∧ Kd.R (Kd.raw 4) 50 w base (fun _ => True) v rows ∧ ∀ (j : Nat) (h : j < xs.length), ∃ A c, rows[j]? = some (cellsA xs[j] A c) ∧ xs[j].data.length ≤ c ∧ NumS w A xs[j].data
theorem OutA.below {w w' : World} {base : Nat} {v : Value} {xs : List Ac} (h : OutA w base v xs) (b : Below w.heap.size w w') : OutA w' base v xs := by
  obtain ⟨rows, h1, h2, h3⟩ := h
  refine ⟨rows, h1, Kd.R_below h2 b, fun j hj => ?_⟩
  obtain ⟨A, c, e1, e2, e3⟩ := h3 j hj
  exact ⟨A, c, e1, e2, e3.below b⟩
theorem OutA.set {w : World} {base : Nat} {v : Value} {xs : List Ac} (h : OutA w base v xs) {t : TypeId} (ht : t ≠ 50) (ht3 : t ≠ 3) {g : Nat} {cl : Array Value} (hg : w.heap[g]? = some (.cells cl t (0, 0))) (i : Nat) (u : Value) : OutA (w.setCell ⟨g, i, none⟩ u) base v xs := by
  obtain ⟨rows, h1, h2, h3⟩ := h
  refine ⟨rows, h1, raw_set h2 ht hg i u, fun j hj => ?_⟩
  obtain ⟨A, c, e1, e2, e3⟩ := h3 j hj
  exact ⟨A, c, e1, e2, e3.set hg ht3 i u⟩
theorem OutA.nil (w : World) (base : Nat) : OutA w base (.slice none 0 0) [] := ⟨[], rfl, Kd.R_nil _ _ _ _ _, fun j h => absurd h (by simp)⟩
theorem OutA.slice {w : World} {base : Nat} {v : Value} {xs : List Ac} (h : OutA w base v xs) : ∃ A c, v = .slice A xs.length c := by
  obtain ⟨rows, h1, h2, _⟩ := h
  obtain ⟨A, c, e, hc, _⟩ := Kd.R_reads h2
  rw [h1] at e
  exact ⟨A, c, e⟩
theorem OutA.reads {w : World} {base : Nat} {v : Value} {xs : List Ac} (h : OutA w base v xs) (hl : ∀ x ∈ xs, x.data.length ≤ 1000000) : ∃ A c, v = .slice A xs.length c ∧ xs.length ≤ c ∧ ActC w A xs := by
  obtain ⟨rows, h1, h2, h3⟩ := h
  obtain ⟨A, c, e, hc, hC⟩ := Kd.R_reads h2
  rw [h1] at e hc hC
  obtain ⟨e1, e2, e3⟩ := hC
  refine ⟨A, c, e, hc, fun j hj => ?_⟩
  obtain ⟨ad, ea, hr⟩ := e3 (by omega)
  obtain ⟨A2, c2, r1, r2, r3⟩ := h3 j hj
  obtain ⟨cs, g1, ⟨g2, _, _⟩, g3⟩ := hr j _ r1
  subst g2
  have d0 := g3 0 _ rfl
  have d1 := g3 1 _ rfl
  have d2 := g3 2 _ rfl
  have d3 := g3 3 _ rfl
  obtain ⟨inner, ho, _⟩ := h2.2
  rcases ho.2 with ⟨hv2, _⟩ | ⟨g, cap, cur, hv2, _⟩
  · rw [e, ea] at hv2; cases hv2
  rw [e, ea] at hv2
  injection hv2 with e5 _ _
  injection e5 with e5
  subst e5
  simp only [add_offS, Nat.zero_add, Nat.add_zero] at d0 d1 d2 d3 ⊢
  exact ⟨_, A2, c2, ea, by rw [add_offS, Nat.zero_add]; exact d0, by rw [add_offS, Nat.zero_add]; exact d1, by rw [add_offS, Nat.zero_add]; exact d2, by rw [add_offS, Nat.zero_add]; exact d3, r2, r3.c (hl _ (List.getElem_mem hj))⟩
/-- Rows of numbers in a row of their own type's cells, read. -/
def UpS (w : World) (A : Option Addr) (xs : List (List Int)) : Prop := xs ≠ [] → ∃ g off cl, A = some ⟨g, off, none⟩ ∧ w.heap[g]? = some (.cells cl 37 (0, 0)) ∧ ∀ (j : Nat) (h : j < xs.length), ∃ B c, cl[off + j]? = some (.slice B xs[j].length c) ∧ xs[j].length ≤ c ∧ NumS w B xs[j]
theorem UpS.below {w w' : World} {A : Option Addr} {xs : List (List Int)} (h : UpS w A xs) (b : Below w.heap.size w w') : UpS w' A xs := fun hn => by
  obtain ⟨g, off, cl, e, hb, hc⟩ := h hn
  exact ⟨g, off, cl, e, blk_below hb b, fun j hj => by
    obtain ⟨B, c, h1, h2, h3⟩ := hc j hj
    exact ⟨B, c, h1, h2, h3.below b⟩⟩
theorem UpS.grown {w w' : World} {A : Option Addr} {xs : List (List Int)} {row : Option Nat} (h : UpS w A xs) (hg : w.grownBy w' row) (h37 : ∀ g cl, w.heap[g]? = some (.cells cl 37 (0, 0)) → some g ≠ row) (h3 : ∀ g cl, w.heap[g]? = some (.cells cl 3 (0, 0)) → some g ≠ row) : UpS w' A xs := fun hn => by
  obtain ⟨g, off, cl, e, hb, hc⟩ := h hn
  exact ⟨g, off, cl, e, blk_grown hb hg (h37 g cl hb), fun j hj => by
    obtain ⟨B, c, h1, h2, h4⟩ := hc j hj
    exact ⟨B, c, h1, h2, h4.grown hg h3⟩⟩
theorem UpS.set {w : World} {A : Option Addr} {xs : List (List Int)} {B : Nat} {cs : Array Value} {t : TypeId} (h : UpS w A xs) (hb : w.heap[B]? = some (.cells cs t (0, 0))) (ht : t ≠ 3) (ht37 : t ≠ 37) (i : Nat) (u : Value) : UpS (w.setCell ⟨B, i, none⟩ u) A xs := fun hn => by
  obtain ⟨g, off, cl, e, hg, hc⟩ := h hn
  exact ⟨g, off, cl, e, blk_far hg (fun e2 => blk_ne hg hb (fun e3 => ht37 e3.symm) e2) u, fun j hj => by
    obtain ⟨B, c, h1, h2, h4⟩ := hc j hj
    exact ⟨B, c, h1, h2, h4.set hb ht i u⟩⟩
theorem UpS.c {w : World} {A : Option Addr} {xs : List (List Int)} (h : UpS w A xs) (hn : xs.length ≤ 1000000) (hl : ∀ x ∈ xs, x.length ≤ 1000000) : Kd.C (Kd.slice 3 (Kd.int .i64)) w A xs.length xs :=
  ⟨rfl, by omega, fun h0 => by
    obtain ⟨g, off, cl, e, hg, hc⟩ := h (fun e => by rw [e] at h0; simp at h0)
    refine ⟨_, e, fun j p hp => ?_⟩
    obtain ⟨hj, rfl⟩ := List.getElem?_eq_some_iff.1 hp
    obtain ⟨B, c, h1, h2, h3⟩ := hc j hj
    refine ⟨[.slice B xs[j].length c], rfl, ⟨B, c, rfl, h2, h3.c (hl _ (List.getElem_mem hj))⟩, fun i u hu => ?_⟩
    obtain ⟨rfl, rfl⟩ : i = 0 ∧ .slice B xs[j].length c = u := by cases i with
      | zero => simpa using hu
      | succ i => simp at hu
    have h4 := blk_cell hg (off + j)
    rw [h1] at h4
    show w.cell? (Addr.add ⟨g, off, none⟩ (j * 1 + 0)) = _
    rw [Nat.mul_one, Nat.add_zero, add_offS]
    exact h4⟩
theorem upS_of_R {w : World} {base : Nat} {v : Value} {xs : List (List Int)} (h : OutU w base v xs) : ∃ A c, v = .slice A xs.length c ∧ xs.length ≤ c ∧ UpS w A xs := by
  obtain ⟨rows, h1, h2, h3⟩ := h
  obtain ⟨A, c, e, hc, hC⟩ := Kd.R_reads h2
  rw [h1] at e hc hC
  obtain ⟨e1, e2, e3⟩ := hC
  refine ⟨A, c, e, hc, fun hn => ?_⟩
  obtain ⟨ad, ea, hr⟩ := e3 (List.length_pos_iff.2 hn)
  obtain ⟨inner, ho, _⟩ := h2.2
  rcases ho.2 with ⟨hv2, _⟩ | ⟨g, cap, cur, hv2, _, hb, _⟩
  · rw [e, ea] at hv2; cases hv2
  rw [e, ea] at hv2
  injection hv2 with e5 _ _
  injection e5 with e5
  subst e5
  refine ⟨g, 0, cur, ea, hb, fun j hj => ?_⟩
  obtain ⟨A2, c2, r1, r2, r3⟩ := h3 j hj
  obtain ⟨cs, g1, ⟨g2, _, _⟩, g3⟩ := hr j _ r1
  subst g2
  have d0 := g3 0 _ rfl
  have h5 : w.cell? ⟨g, 0 + j, none⟩ = some (.slice A2 xs[j].length c2) := by
    have h6 : (⟨g, 0, none⟩ : Addr).add (j * 1 + 0) = ⟨g, 0 + j, none⟩ := by rw [Nat.mul_one, Nat.add_zero, add_offS]
    rw [← h6]
    exact d0
  rw [blk_cell hb] at h5
  exact ⟨A2, c2, h5, r2, r3⟩
theorem OutA.snoc {w w' : World} {base : Nat} {v v' : Value} {xs : List Ac} {rows : List (List Value)} (x : Ac) (A : Option Addr) (c : Nat) (h1 : rows.length = xs.length) (h2 : Kd.R (Kd.raw 4) 50 w base (fun _ => True) v rows)
    (h3 : ∀ (j : Nat) (h : j < xs.length), ∃ A c, rows[j]? = some (cellsA xs[j] A c) ∧ xs[j].data.length ≤ c ∧ NumS w A xs[j].data) (hg : w.grownBy w' v.ownBlock) (hx : x.data.length ≤ c) (hn : NumS w A x.data)
    (h4 : Kd.R (Kd.raw 4) 50 w' base (fun _ => True) v' (rows ++ [cellsA x A c])) : OutA w' base v' (xs ++ [x]) := by
  refine ⟨_, by simp [h1], h4, fun j hj => ?_⟩
  by_cases hlt : j < xs.length
  · obtain ⟨A2, c2, e1, e2, e3⟩ := h3 j hlt
    refine ⟨A2, c2, ?_, ?_, ?_⟩
    · rw [List.getElem?_append_left (by omega), e1, List.getElem_append_left hlt]
    · rw [List.getElem_append_left hlt]; exact e2
    · rw [List.getElem_append_left hlt]; exact e3.grown hg (raw_away h2 (by decide))
  · have hj2 : j = xs.length := by simp at hj; omega
    subst hj2
    refine ⟨A, c, ?_, ?_, ?_⟩
    · have := List.getElem?_concat_length (l := rows) (a := cellsA x A c)
      rw [h1] at this
      rw [this]; simp
    · simpa using hx
    · simpa using hn.grown hg (raw_away h2 (by decide))
theorem oneA (x : Ac) (A : Option Addr) (c : Nat) : ∀ u ∈ cellsA x A c, u.oneCell' = true := by
  intro u hu
  simp only [cellsA, List.mem_cons, List.not_mem_nil, or_false] at hu
  rcases hu with rfl | rfl | rfl | rfl <;> rfl
/-- Where a text falls out, and why. -/
inductive PErr (s : List UInt8) : Int → Int → Prop
  | big : 65536 < s.length → PErr s 0 21
  | line (k : Nat) : s.length ≤ 65536 → linesOf s = (none, k) → PErr s k 20
  | none : s.length ≤ 65536 → linesOf s = (some [], 0) → PErr s 1 20
  | conf (l : List UInt8) (ls : List (List UInt8)) : s.length ≤ 65536 → linesOf s = (some (l :: ls), 0) → resC l = false → PErr s 1 20
  | act (l : List UInt8) (ls : List (List UInt8)) (j : Nat) (hj : j < ls.length) (st : PS) : s.length ≤ 65536 → linesOf s = (some (l :: ls), 0) → resC l = true → runL ps0 (ls.take j) = some st → stepL st ls[j] = Option.none → PErr s ((j : Int) + 2) (codeL st ls[j])
/-- What Parse answers. -/
structure ParseOk (s : List UInt8) (w w' : World) (e : Ending) : Prop where mk :: (out : ∃ l ls st v u, s.length ≤ 65536 ∧ linesOf s = (some (l :: ls), 0) ∧ resC l = true ∧ runL ps0 ls = some st ∧ e = .returned (.tuple #[.agg #[.int .i64 (valC l).variant, .int .i64 (valC l).width, .int .i64 (valC l).cap, .int .i64 (valC l).prod, .int .u64 ((valC l).start : Nat), v, u], .int .i64 0, .int .i64 0]) ∧ (∃ A c, v = .slice A (valC l).up.length c ∧ (valC l).up.length ≤ c ∧ UpS w' A (valC l).up) ∧ OutA w' w.heap.size u st.acts ∧ Below w.heap.size w w')
structure ParseNo (s : List UInt8) (w w' : World) (e : Ending) : Prop where mk :: (out : ∃ k c, PErr s k c ∧ e = .returned (.tuple #[.agg #[.int .i64 0, .int .i64 0, .int .i64 0, .int .i64 0, .int .u64 0, .slice none 0 0, .slice none 0 0], .int .i64 k, .int .i64 c]) ∧ Below w.heap.size w w')
def ParseRes (s : List UInt8) (w w' : World) (e : Ending) : Prop := ParseOk s w w' e ∨ ParseNo s w w' e
end Go.Proofs.YtabcdcnnamflfaaDoor.Wd
/- Plain laws of texts that are parsed: lines and back, where the acts come from, the front of a text. No program in sight. -/
set_option linter.unusedVariables false
set_option linter.unusedSimpArgs false
namespace Go.Proofs.YtabcdcnnamflfaaDoor.Wd
open Go
theorem tail_text : ∀ ls : List (List UInt8), Lib.joinTail [10] (ls ++ [[]]) = 10 :: textOf ls
  | [] => by simp [Lib.joinTail, textOf]
  | x :: r => by
    rw [List.cons_append, joinTail_cons, tail_text r]
    simp [textOf]
theorem join_text : ∀ ls : List (List UInt8), Lib.join (ls ++ [[]]) [10] = textOf ls
  | [] => by rw [List.nil_append, Lib.join_one]; rfl
  | x :: r => by
    rw [List.cons_append, Lib.join_cons, tail_text r]
    simp [textOf]
theorem lines_inv {s : List UInt8} {ls : List (List UInt8)} {k : Nat} (h : linesOf s = (some ls, k)) : (∀ l ∈ ls, lineB l = true) ∧ (∀ l ∈ ls, (10 : UInt8) ∉ l) ∧ textOf ls = s := by
  unfold linesOf at h
  split at h
  · cases h
  · next hf =>
    split at h
    · next hl =>
      injection h with h _
      injection h with h
      have e : sp 10 s = ls ++ [[]] := by
        rw [← h, ← hl, List.dropLast_concat_getLast (sp_ne 10 s)]
      refine ⟨fun l hl2 => ?_, fun l hl2 => sp_mem s l (by rw [e]; simp [hl2]), ?_⟩
      · rw [List.findIdx?_eq_none_iff] at hf
        have := hf l (by rw [h]; exact hl2)
        simpa using this
      · rw [← join_text, ← e, join_sp]
    · cases h
theorem lines_none_len {s : List UInt8} {ls : List (List UInt8)} {k : Nat} (h : linesOf s = (some ls, k)) (i : Nat) : (textOf (ls.take i)).length ≤ s.length := by
  rw [← (lines_inv h).2.2]
  conv => rhs; rw [← List.take_append_drop i ls]
  simp only [textOf, List.map_append, List.flatten_append, List.length_append]
  omega
theorem lines_take {s : List UInt8} {ls : List (List UInt8)} {k : Nat} (h : linesOf s = (some ls, k)) (i : Nat) : linesOf (textOf (ls.take i)) = (some (ls.take i), 0) := by
  obtain ⟨h1, h2, _⟩ := lines_inv h
  exact lines_text _ (fun l hl => h2 l (List.mem_of_mem_take hl)) (fun l hl => h1 l (List.mem_of_mem_take hl))
theorem line_len {s : List UInt8} {ls : List (List UInt8)} {k : Nat} (h : linesOf s = (some ls, k)) {l : List UInt8} (hl : l ∈ ls) : l.length ≤ s.length := by
  rw [← (lines_inv h).2.2]
  obtain ⟨a, b, rfl⟩ := List.append_of_mem hl
  simp only [textOf, List.map_append, List.flatten_append, List.length_append, List.map_cons, List.flatten_cons]
  omega
theorem run_from : ∀ (ls : List (List UInt8)) (b s : PS), runL b ls = some s → ∀ x ∈ s.acts, x ∈ b.acts ∨ ∃ l ∈ ls, x = valA l
  | [], b, s, h, x, hx => by
    injection h with h
    subst h
    exact .inl hx
  | l :: r, b, s, h, x, hx => by
    simp only [runL] at h
    cases hs : stepL b l with
    | none => rw [hs] at h; cases h
    | some c =>
      rw [hs] at h
      obtain ⟨_, g2, _⟩ := stepL_some hs
      rcases run_from r c s h x hx with h2 | ⟨l2, h2, h3⟩
      · rw [g2, List.mem_append, List.mem_replicate] at h2
        rcases h2 with h2 | h2
        · exact .inl h2
        · exact .inr ⟨l, by simp, h2.2⟩
      · exact .inr ⟨l2, by simp [h2], h3⟩
/-- A text that is right is not wrong. -/
theorem perr_no {s : List UInt8} {k c : Int} (h : PErr s k c) {l : List UInt8} {ls : List (List UInt8)} {st : PS} (h1 : s.length ≤ 65536) (h2 : linesOf s = (some (l :: ls), 0)) (h3 : resC l = true) (h4 : runL ps0 ls = some st) : False := by
  cases h with
  | big h => omega
  | line k _ h => rw [h] at h2; cases h2
  | none _ h => rw [h] at h2; cases h2
  | conf l2 ls2 _ h h5 =>
    rw [h] at h2
    injection h2 with h2 _
    injection h2 with h2
    injection h2 with h6 h7
    subst h6
    rw [h3] at h5
    cases h5
  | act l2 ls2 j hj st2 _ h _ h5 h6 =>
    rw [h] at h2
    injection h2 with h2 _
    injection h2 with h2
    injection h2 with h7 h8
    subst h7
    subst h8
    have e := h4
    rw [← List.take_append_drop j ls2, runL_append, h5, List.drop_eq_getElem_cons hj] at e
    simp only [Option.bind_some, runL, h6] at e
    cases e
end Go.Proofs.YtabcdcnnamflfaaDoor.Wd
/- The program's Parse at a text that is none: walked. Asked: the library's variables lie as laid. -/
set_option linter.unusedVariables false
set_option linter.unusedSimpArgs false
set_option maxRecDepth 100000
namespace Go.Proofs.YtabcdcnnamflfaaDoor.Wd
open Go.RowKit Go.Proofs.YtabcdcnnamflfaaDoorW.PrintWords Go.Proofs.YtabcdcnnamflfaaDoorW.PrintLast Go.Proofs.YtabcdcnnamflfaaDoorW.PrintMore
theorem cell7 {w : World} {g : Nat} {c0 c1 c2 c3 c4 c5 c6 : Value} {t : TypeId} (h : w.heap[g]? = some (.cells #[c0, c1, c2, c3, c4, c5, c6] t (0, 0))) :
    w.cell? ⟨g, 0, none⟩ = some c0 ∧ w.cell? ⟨g, 1, none⟩ = some c1 ∧ w.cell? ⟨g, 2, none⟩ = some c2 ∧ w.cell? ⟨g, 3, none⟩ = some c3 ∧ w.cell? ⟨g, 4, none⟩ = some c4 ∧ w.cell? ⟨g, 5, none⟩ = some c5 ∧ w.cell? ⟨g, 6, none⟩ = some c6 := by
  refine ⟨?_, ?_, ?_, ?_, ?_, ?_, ?_⟩ <;> simp [World.cell?, h]
theorem set7 {w0 w : World} {R : Nat} {t : TypeId} {a0 a1 a2 a3 a4 a5 a6 : Value} (v0 v1 v2 v3 v4 v5 v6 : Value) (b : Below w0.heap.size w0 w) (hR : w0.heap.size ≤ R) (h : w.heap[R]? = some (.cells #[a0, a1, a2, a3, a4, a5, a6] t (0, 0))) :
    (((((((w.setCell ⟨R, 0, none⟩ v0).setCell ⟨R, 1, none⟩ v1).setCell ⟨R, 2, none⟩ v2).setCell ⟨R, 3, none⟩ v3).setCell ⟨R, 4, none⟩ v4).setCell ⟨R, 5, none⟩ v5).setCell ⟨R, 6, none⟩ v6).heap[R]? = some (.cells #[v0, v1, v2, v3, v4, v5, v6] t (0, 0)) ∧ Below w0.heap.size w0 (((((((w.setCell ⟨R, 0, none⟩ v0).setCell ⟨R, 1, none⟩ v1).setCell ⟨R, 2, none⟩ v2).setCell ⟨R, 3, none⟩ v3).setCell ⟨R, 4, none⟩ v4).setCell ⟨R, 5, none⟩ v5).setCell ⟨R, 6, none⟩ v6) := by
  have k0 := blk_put (cs' := #[v0, a1, a2, a3, a4, a5, a6]) h 0 v0 rfl
  have k1 := blk_put (cs' := #[v0, v1, a2, a3, a4, a5, a6]) k0 1 v1 rfl
  have k2 := blk_put (cs' := #[v0, v1, v2, a3, a4, a5, a6]) k1 2 v2 rfl
  have k3 := blk_put (cs' := #[v0, v1, v2, v3, a4, a5, a6]) k2 3 v3 rfl
  have k4 := blk_put (cs' := #[v0, v1, v2, v3, v4, a5, a6]) k3 4 v4 rfl
  have k5 := blk_put (cs' := #[v0, v1, v2, v3, v4, v5, a6]) k4 5 v5 rfl
  have k6 := blk_put (cs' := #[v0, v1, v2, v3, v4, v5, v6]) k5 6 v6 rfl
  exact ⟨k6, (((((((b.setCell hR _).setCell hR _).setCell hR _).setCell hR _).setCell hR _).setCell hR _).setCell hR _)⟩
theorem keep7 {w0 w : World} {R : Nat} {a0 a1 a2 a3 a4 a5 a6 : Value} (v0 v1 v2 v3 v4 v5 v6 : Value) (h : w.heap[R]? = some (.cells #[a0, a1, a2, a3, a4, a5, a6] 67 (0, 0))) :
    (∀ v xs, OutA w w0.heap.size v xs → OutA (((((((w.setCell ⟨R, 0, none⟩ v0).setCell ⟨R, 1, none⟩ v1).setCell ⟨R, 2, none⟩ v2).setCell ⟨R, 3, none⟩ v3).setCell ⟨R, 4, none⟩ v4).setCell ⟨R, 5, none⟩ v5).setCell ⟨R, 6, none⟩ v6) w0.heap.size v xs) ∧ ∀ A xs, UpS w A xs → UpS (((((((w.setCell ⟨R, 0, none⟩ v0).setCell ⟨R, 1, none⟩ v1).setCell ⟨R, 2, none⟩ v2).setCell ⟨R, 3, none⟩ v3).setCell ⟨R, 4, none⟩ v4).setCell ⟨R, 5, none⟩ v5).setCell ⟨R, 6, none⟩ v6) A xs := by
  have k0 := blk_put (cs' := #[v0, a1, a2, a3, a4, a5, a6]) h 0 v0 rfl
  have k1 := blk_put (cs' := #[v0, v1, a2, a3, a4, a5, a6]) k0 1 v1 rfl
  have k2 := blk_put (cs' := #[v0, v1, v2, a3, a4, a5, a6]) k1 2 v2 rfl
  have k3 := blk_put (cs' := #[v0, v1, v2, v3, a4, a5, a6]) k2 3 v3 rfl
  have k4 := blk_put (cs' := #[v0, v1, v2, v3, v4, a5, a6]) k3 4 v4 rfl
  have k5 := blk_put (cs' := #[v0, v1, v2, v3, v4, v5, a6]) k4 5 v5 rfl
  constructor
  · intro v xs hn
    exact ((((((hn.set (by decide) (by decide) h 0 _).set (by decide) (by decide) k0 1 _).set (by decide) (by decide) k1 2 _).set (by decide) (by decide) k2 3 _).set (by decide) (by decide) k3 4 _).set (by decide) (by decide) k4 5 _).set (by decide) (by decide) k5 6 _
  · intro v xs hn
    exact ((((((hn.set h (by decide) (by decide) 0 _).set k0 (by decide) (by decide) 1 _).set k1 (by decide) (by decide) 2 _).set k2 (by decide) (by decide) 3 _).set k3 (by decide) (by decide) 4 _).set k4 (by decide) (by decide) 5 _).set k5 (by decide) (by decide) 6 _
set_option maxHeartbeats 8000000 in
theorem parse_bad (s : List UInt8) (hs : s.length ≤ 1000000) (w : World) (hw : LibW w) (h : ∀ l ls, s.length ≤ 65536 → linesOf s = (some (l :: ls), 0) → resC l = false) :
    Calls Tryd.prog 38 #[.string (bs s)] w fun e w' => ParseNo s w w' e := by
  have HW := Aside.mk hw
  have HS := Aside.mk (lines_w (bs s) (by rw [bs_size]; omega))
  have HSL := Aside.mk h
  have HB := Aside.mk (below_alloc (Below.refl w.heap.size w) (.cells #[.int .i64 0, .int .i64 0, .int .i64 0, .int .i64 0, .int .u64 0, .slice none 0 0, .slice none 0 0] 67))
  have HR := Aside.mk (heap_alloc_new w (.cells #[.int .i64 0, .int .i64 0, .int .i64 0, .int .i64 0, .int .u64 0, .slice none 0 0, .slice none 0 0] 67))
  clear h hs hw
  go_enter Tryd.func38, Tryd.ntmps38
  go_wp2_with fail
  refine (HS.out _ (HW.out.below HB.out)).mono ?_
  rintro r w1 ⟨hlr, hb⟩
  replace HR := Aside.mk (blk_below HR.out hb)
  replace HB := Aside.mk (HB.out.trans (hb.mono HB.out.size))
  clear hb HS
  unfold LinesRes at hlr
  rw [bs_data, bs_size] at hlr
  rcases hlr with ⟨h1, rfl⟩ | ⟨h1, k, h2, rfl⟩ | ⟨h1, ls, v, h2, hO, rfl⟩
  · have HP := Aside.mk (PErr.big h1)
    have HF := Aside.mk (set7 (w0 := w) (R := w.heap.size) (.int .i64 0) (.int .i64 0) (.int .i64 0) (.int .i64 0) (.int .u64 0) (.slice none 0 0) (.slice none 0 0) HB.out (Nat.le_refl _) HR.out)
    obtain ⟨r0, r1, r2, r3, r4, r5, r6⟩ := cell7 HR.out
    have fr0 := blk_froz HR.out 0
    have fr1 := blk_froz HR.out 1
    have fr2 := blk_froz HR.out 2
    have fr3 := blk_froz HR.out 3
    have fr4 := blk_froz HR.out 4
    have fr5 := blk_froz HR.out 5
    have fr6 := blk_froz HR.out 6
    clear h1
    go_wp2
    refine bodyPost_ret (results_ctt rfl _ _ w.heap.size 67 #[.int .i64 0, .int .i64 0, .int .i64 0, .int .i64 0, .int .u64 0, .slice none 0 0, .slice none 0 0] (0, 0) _ rfl HF.out.1 Tryd.underlying67 rfl (by kernel_rfl)) rfl ?_
    exact ⟨_, _, HP.out, rfl, HF.out.2⟩
  · have HP := Aside.mk (PErr.line k h1 h2)
    have HF := Aside.mk (set7 (w0 := w) (R := w.heap.size) (.int .i64 0) (.int .i64 0) (.int .i64 0) (.int .i64 0) (.int .u64 0) (.slice none 0 0) (.slice none 0 0) HB.out (Nat.le_refl _) HR.out)
    obtain ⟨r0, r1, r2, r3, r4, r5, r6⟩ := cell7 HR.out
    have fr0 := blk_froz HR.out 0
    have fr1 := blk_froz HR.out 1
    have fr2 := blk_froz HR.out 2
    have fr3 := blk_froz HR.out 3
    have fr4 := blk_froz HR.out 4
    have fr5 := blk_froz HR.out 5
    have fr6 := blk_froz HR.out 6
    clear h1 h2
    go_wp2
    refine bodyPost_ret (results_ctt rfl _ _ w.heap.size 67 #[.int .i64 0, .int .i64 0, .int .i64 0, .int .i64 0, .int .u64 0, .slice none 0 0, .slice none 0 0] (0, 0) _ rfl HF.out.1 Tryd.underlying67 rfl (by kernel_rfl)) rfl ?_
    exact ⟨_, _, HP.out, rfl, HF.out.2⟩
  · obtain ⟨A, c, rfl, hT⟩ := hO.reads
    clear hO
    cases ls with
    | nil =>
      have HP := Aside.mk (PErr.none h1 h2)
      have HF := Aside.mk (set7 (w0 := w) (R := w.heap.size) (.int .i64 0) (.int .i64 0) (.int .i64 0) (.int .i64 0) (.int .u64 0) (.slice none 0 0) (.slice none 0 0) HB.out (Nat.le_refl _) HR.out)
      obtain ⟨r0, r1, r2, r3, r4, r5, r6⟩ := cell7 HR.out
      have fr0 := blk_froz HR.out 0
      have fr1 := blk_froz HR.out 1
      have fr2 := blk_froz HR.out 2
      have fr3 := blk_froz HR.out 3
      have fr4 := blk_froz HR.out 4
      have fr5 := blk_froz HR.out 5
      have fr6 := blk_froz HR.out 6
      clear h1 h2 hT
      go_wp2
      refine bodyPost_ret (results_ctt rfl _ _ w.heap.size 67 #[.int .i64 0, .int .i64 0, .int .i64 0, .int .i64 0, .int .u64 0, .slice none 0 0, .slice none 0 0] (0, 0) _ rfl HF.out.1 Tryd.underlying67 rfl (by kernel_rfl)) rfl ?_
      exact ⟨_, _, HP.out, rfl, HF.out.2⟩
    | cons l ls =>
      have hr := HSL.out l ls h1 h2
      have HP := Aside.mk (PErr.conf l ls h1 h2 hr)
      have HC := Aside.mk (conf_ l (by have := line_len h2 (l := l) (by simp); omega) w1 (HW.out.below HB.out))
      have HRC := Aside.mk hr
      obtain ⟨g, cl, rfl, hcb, hcc⟩ := hT (by simp)
      have c0 := (blk_cell hcb 0).trans (hcc 0 (by simp))
      clear h1 h2 hT hr hcb hcc HSL
      simp only [List.getElem_cons_zero, List.length_cons] at c0 ⊢
      go_wp2_with fail
      refine HC.out.mono ?_
      rintro r w2 ⟨v, he, hu, hb⟩
      obtain ⟨Av, cv, rfl, _⟩ := hu.slice
      clear hu
      rw [HRC.out] at he
      subst he
      replace HR := Aside.mk (blk_below HR.out hb)
      replace HB := Aside.mk (HB.out.trans (hb.mono HB.out.size))
      clear hb c0
      replace HR := Aside.mk (blk_alloc HR.out (.cells #[.int .i64 (valC l).variant, .int .i64 (valC l).width, .int .i64 (valC l).cap, .int .i64 (valC l).prod, .int .u64 (((valC l).start : Nat) : Int), .slice Av (valC l).up.length cv] 46))
      replace HB := Aside.mk (below_alloc HB.out (.cells #[.int .i64 (valC l).variant, .int .i64 (valC l).width, .int .i64 (valC l).cap, .int .i64 (valC l).prod, .int .u64 (((valC l).start : Nat) : Int), .slice Av (valC l).up.length cv] 46))
      go_upto_region 7 with (fail)
      generalize w2.alloc (.cells #[.int .i64 (valC l).variant, .int .i64 (valC l).width, .int .i64 (valC l).cap, .int .i64 (valC l).prod, .int .u64 (((valC l).start : Nat) : Int), .slice Av (valC l).up.length cv] 46) = w3 at *
      have HF := Aside.mk (set7 (w0 := w) (R := w.heap.size) (.int .i64 0) (.int .i64 0) (.int .i64 0) (.int .i64 0) (.int .u64 0) (.slice none 0 0) (.slice none 0 0) HB.out (Nat.le_refl _) HR.out)
      obtain ⟨r0, r1, r2, r3, r4, r5, r6⟩ := cell7 HR.out
      have fr0 := blk_froz HR.out 0
      have fr1 := blk_froz HR.out 1
      have fr2 := blk_froz HR.out 2
      have fr3 := blk_froz HR.out 3
      have fr4 := blk_froz HR.out 4
      have fr5 := blk_froz HR.out 5
      have fr6 := blk_froz HR.out 6
      go_wp2
      refine bodyPost_ret (results_ctt rfl _ _ w.heap.size 67 #[.int .i64 0, .int .i64 0, .int .i64 0, .int .i64 0, .int .u64 0, .slice none 0 0, .slice none 0 0] (0, 0) _ rfl HF.out.1 Tryd.underlying67 rfl (by kernel_rfl)) rfl ?_
      exact ⟨_, _, HP.out, rfl, HF.out.2⟩
end Go.Proofs.YtabcdcnnamflfaaDoor.Wd
