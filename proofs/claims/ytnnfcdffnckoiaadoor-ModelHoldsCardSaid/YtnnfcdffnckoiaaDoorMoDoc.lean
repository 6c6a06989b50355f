/- The model's plain law: what the program keeps, what the document's list of events tells, and that a step keeps them alike. No program in sight. -/
import Derived.RowKit
import Derived.Test.YtnnfcdffnckoiaaDoorChecked
import Derived.Test.YtnnfcdffnckoiaaDoorWWords
import Derived.Test.YtnnfcdffnckoiaaDoorWApart
import Derived.Test.YtnnfcdffnckoiaaDoorWMore
import Derived.Test.YtnnfcdffnckoiaaDoorWLast
import Derived.RegionTactic
import Derived.BigRegion
import Derived.StillTailTactics
import Derived.Test.YtnnfcdffnckoiaaDoorQWi
import Derived.Test.YtnnfcdffnckoiaaDoorGEndss
set_option linter.unusedVariables false
set_option linter.unusedSimpArgs false
namespace Go.Proofs.YtnnfcdffnckoiaaDoor.Mo
structure Ev where
  kind : Int
  thread : Int
  op : Int
  n : Int
  pos : Int
  code : Int
  data : List Int
/-- What happened, and its count. -/
structure On where
  e : Ev
  c : Int
/-- What a producer holds. -/
structure Hd where
  f : Int
  n : Int
  p : Int
  g : Bool
def hz : Hd := ⟨0, 0, 0, false⟩
def isZ (h : Hd) : Bool := decide (h.f = 0) && decide (h.n = 0) && decide (h.p = 0) && !h.g
theorem isZ_yes {h : Hd} (e : isZ h = true) : h = hz := by
  obtain ⟨f, n, p, g⟩ := h
  unfold isZ at e
  simp only [Bool.and_eq_true, decide_eq_true_eq, Bool.not_eq_true'] at e
  obtain ⟨⟨⟨e1, e2⟩, e3⟩, e4⟩ := e
  subst e1 e2 e3 e4
  rfl
structure Cx where
  cap : Int
  prod : Nat
  up : List (List Nat)
  ends : List Nat
  cnt : Int → Int → Int
  lim : Nat
structure St where
  taken : Int
  granted : Int
  pre : Int
  held : List Hd
  put : List Bool
  data : List Int
  gate : List Int
  saw : List Int
/-! ### the program's side -/
def least (gate : List Int) (l : List Nat) : Int := l.foldl (fun n c => min n (gate.getD c 0)) (gate.getD (l.headD 0) 0)
def limit (cx : Cx) (st : St) (k : Nat) : Int := if cx.up.getD k [] = [] then st.pre else least st.gate (cx.up.getD k [])
def space (cx : Cx) (st : St) : Int := min (max (cx.cap - st.granted + least st.gate cx.ends) 0) cx.cap
def setR {α : Type} (l : List α) (a : Nat) (xs : List α) : List α := l.take a ++ xs ++ l.drop (a + xs.length)
def run (l : List Bool) : Nat := (l.takeWhile id).length
def held (st : St) (t : Nat) : Hd := st.held.getD t hz
def takeC (cx : Cx) (st : St) (e : Ev) : Int :=
  if ¬ (0 ≤ e.thread ∧ e.thread < cx.prod) then 11
  else if isZ (held st e.thread.toNat) = false then 14
  else if e.n < 1 ∨ e.n > cx.cap then 13
  else if cx.cnt st.taken e.pos ≠ st.taken then 16 else 0
def takeS (st : St) (e : Ev) : St := { st with held := st.held.set e.thread.toNat ⟨st.taken, e.n, 0, false⟩, taken := st.taken + e.n, put := st.put ++ List.replicate e.n.toNat false, data := st.data ++ List.replicate e.n.toNat 0 }
def grantC (cx : Cx) (st : St) (e : Ev) : Int :=
  if ¬ (0 ≤ e.thread ∧ e.thread < cx.prod) then 11
  else if (held st e.thread.toNat).n = 0 ∨ (held st e.thread.toNat).g = true then 14
  else if (held st e.thread.toNat).f + (held st e.thread.toNat).n - least st.gate cx.ends > cx.cap then 17 else 0
def grantS (st : St) (e : Ev) : St := { st with held := st.held.set e.thread.toNat { held st e.thread.toNat with g := true }, granted := max st.granted ((held st e.thread.toNat).f + (held st e.thread.toNat).n) }
def putsC (cx : Cx) (st : St) (e : Ev) : Int :=
  if ¬ (0 ≤ e.thread ∧ e.thread < cx.prod) then 11
  else if (held st e.thread.toNat).g = false then 14
  else if e.n < 1 ∨ e.n > (held st e.thread.toNat).n - (held st e.thread.toNat).p then 13
  else if cx.cnt st.taken e.pos ≠ (held st e.thread.toNat).f + (held st e.thread.toNat).p then 18
  else if (e.data.length : Int) ≠ e.n then 19 else 0
def afterPut (h : Hd) (n : Int) : Hd := if h.p + n = h.n then hz else { h with p := h.p + n }
def putAt (st : St) (e : Ev) : Nat := ((held st e.thread.toNat).f + (held st e.thread.toNat).p).toNat
def putsS (st : St) (e : Ev) : St :=
  { st with put := setR st.put (putAt st e) (List.replicate e.n.toNat true), data := setR st.data (putAt st e) e.data, pre := (run (setR st.put (putAt st e) (List.replicate e.n.toNat true)) : Int), held := st.held.set e.thread.toNat (afterPut (held st e.thread.toNat) e.n) }
def isCons (cx : Cx) (t : Int) : Prop := (cx.prod : Int) ≤ t ∧ t < cx.prod + cx.up.length
instance (cx : Cx) (t : Int) : Decidable (isCons cx t) := by unfold isCons; infer_instance
def cons (cx : Cx) (t : Int) : Nat := (t - cx.prod).toNat
def seenC (cx : Cx) (st : St) (e : Ev) : Int :=
  if ¬ isCons cx e.thread then 11
  else if cx.cnt st.taken e.pos < st.saw.getD (cons cx e.thread) 0 then 18
  else if cx.cnt st.taken e.pos > limit cx st (cons cx e.thread) then 17 else 0
def seenS (cx : Cx) (st : St) (e : Ev) : St := { st with saw := st.saw.set (cons cx e.thread) (cx.cnt st.taken e.pos) }
def freeC (cx : Cx) (st : St) (e : Ev) : Int :=
  if ¬ isCons cx e.thread then 11
  else if cx.cnt st.taken e.pos ≤ st.gate.getD (cons cx e.thread) 0 ∨ cx.cnt st.taken e.pos > st.saw.getD (cons cx e.thread) 0 then 18 else 0
def freeS (cx : Cx) (st : St) (e : Ev) : St := { st with gate := st.gate.set (cons cx e.thread) (cx.cnt st.taken e.pos) }
def code (cx : Cx) (st : St) (e : Ev) : Int :=
  if e.kind = 3 then takeC cx st e else if e.kind = 4 then grantC cx st e else if e.kind = 5 then putsC cx st e
  else if e.kind = 6 then seenC cx st e else if e.kind = 7 then freeC cx st e else if e.kind = 1 ∨ e.kind = 2 then 0 else 12
def next (cx : Cx) (st : St) (e : Ev) : St :=
  if e.kind = 3 then takeS st e else if e.kind = 4 then grantS st e else if e.kind = 5 then putsS st e
  else if e.kind = 6 then seenS cx st e else if e.kind = 7 then freeS cx st e else st
def step (cx : Cx) (st : St) (e : Ev) : St := if code cx st e = 0 then next cx st e else st
def st0 (cx : Cx) : St := ⟨0, 0, 0, List.replicate cx.prod hz, [], [], List.replicate cx.up.length 0, List.replicate cx.up.length 0⟩
/-! ### the document's side -/
def taken (L : List On) : Int := L.foldl (fun n x => if x.e.kind = 3 then n + x.e.n else n) 0
def hstep (t : Int) (h : Hd) (x : On) : Hd :=
  if x.e.thread = t then
    if x.e.kind = 3 then ⟨x.c, x.e.n, 0, false⟩
    else if x.e.kind = 4 then { h with g := true }
    else if x.e.kind = 5 then afterPut h x.e.n
    else h
  else h
def holds (L : List On) (t : Int) : Hd := L.foldl (hstep t) hz
def atX (x : On) (n : Int) : Option Int := if x.e.kind = 5 ∧ 0 ≤ n - x.c ∧ n - x.c < x.e.n then some (x.e.data.getD (n - x.c).toNat 0) else none
def dataAt (L : List On) (n : Int) : Option Int := L.findSome? (fun x => atX x n)
def lastOf (P : Int) (L : List On) (k kind : Int) : Int := L.foldl (fun n x => if x.e.kind = kind ∧ x.e.thread = P + k then x.c else n) 0
def gmax (L : List On) : Int := L.foldl (fun n x => if x.e.kind = 4 then max n x.c else n) 0
def cOf (cx : Cx) (st : St) (e : Ev) : Int := if e.kind = 4 then (held st e.thread.toNat).f + (held st e.thread.toNat).n else cx.cnt st.taken e.pos
theorem taken_snoc (L : List On) (x : On) : taken (L ++ [x]) = if x.e.kind = 3 then taken L + x.e.n else taken L := by simp [taken]
theorem holds_snoc (L : List On) (x : On) (t : Int) : holds (L ++ [x]) t = hstep t (holds L t) x := by simp [holds]
theorem dataAt_snoc (L : List On) (x : On) (n : Int) : dataAt (L ++ [x]) n = (dataAt L n).or (atX x n) := by
  unfold dataAt
  rw [List.findSome?_append]
  congr 1
  simp only [List.findSome?_cons, List.findSome?_nil]
  cases atX x n <;> rfl
theorem lastOf_snoc (P : Int) (L : List On) (x : On) (k kind : Int) : lastOf P (L ++ [x]) k kind = if x.e.kind = kind ∧ x.e.thread = P + k then x.c else lastOf P L k kind := by simp [lastOf]
theorem gmax_snoc (L : List On) (x : On) : gmax (L ++ [x]) = if x.e.kind = 4 then max (gmax L) x.c else gmax L := by simp [gmax]
theorem dataAt_other {L : List On} {x : On} (h : x.e.kind ≠ 5) (n : Int) : dataAt (L ++ [x]) n = dataAt L n := by
  rw [dataAt_snoc]
  have : atX x n = none := by unfold atX; rw [if_neg (fun h2 => h h2.1)]
  rw [this, Option.or_none]
/-! ### what stands always -/
structure Wf (cx : Cx) (st : St) : Prop where
  t0 : 0 ≤ st.taken
  lp : (st.put.length : Int) = st.taken
  ld : (st.data.length : Int) = st.taken
  pf : st.pre = (run st.put : Int)
  lh : st.held.length = cx.prod
  hw : ∀ t < cx.prod, held st t = hz ∨ (1 ≤ (held st t).n ∧ (held st t).n ≤ cx.cap ∧ 0 ≤ (held st t).f ∧ (held st t).f + (held st t).n ≤ st.taken ∧ 0 ≤ (held st t).p ∧ (held st t).p < (held st t).n ∧ ∀ i : Nat, (held st t).f + (held st t).p ≤ i → (i : Int) < (held st t).f + (held st t).n → st.put.getD i true = false)
  hd : ∀ t < cx.prod, ∀ u < cx.prod, t ≠ u → held st t = hz ∨ held st u = hz ∨ (held st t).f + (held st t).n ≤ (held st u).f ∨ (held st u).f + (held st u).n ≤ (held st t).f
  lg : st.gate.length = cx.up.length
  ls : st.saw.length = cx.up.length
structure Rel (cx : Cx) (st : St) (L : List On) : Prop where
  tk : taken L = st.taken
  pt : ∀ i : Nat, (i : Int) < st.taken → dataAt L i = if st.put.getD i false = true then some (st.data.getD i 0) else none
  po : ∀ n : Int, n < 0 ∨ st.taken ≤ n → dataAt L n = none
  hl : ∀ t < cx.prod, holds L t = held st t
  gt : ∀ k < cx.up.length, lastOf cx.prod L k 7 = st.gate.getD k 0
  sw : ∀ k < cx.up.length, lastOf cx.prod L k 6 = st.saw.getD k 0
  gr : gmax L = st.granted
  gd : ∀ x ∈ L, x.e.kind = 5 → (x.e.data.length : Int) = x.e.n
theorem setR_len {α : Type} (l : List α) (a : Nat) (xs : List α) (h : a + xs.length ≤ l.length) : (setR l a xs).length = l.length := by
  unfold setR; simp; omega
theorem setR_in {α : Type} (l : List α) (a : Nat) (xs : List α) (h : a + xs.length ≤ l.length) (i : Nat) (d : α) (h1 : a ≤ i) (h2 : i < a + xs.length) : (setR l a xs).getD i d = xs.getD (i - a) d := by
  unfold setR
  simp only [List.getD_eq_getElem?_getD]
  rw [List.append_assoc, List.getElem?_append_right (by simp; omega), List.getElem?_append_left (by simp; omega)]
  simp only [List.length_take]
  rw [Nat.min_eq_left (by omega)]
theorem setR_out {α : Type} (l : List α) (a : Nat) (xs : List α) (h : a + xs.length ≤ l.length) (i : Nat) (d : α) (h1 : i < a ∨ a + xs.length ≤ i) : (setR l a xs).getD i d = l.getD i d := by
  unfold setR
  simp only [List.getD_eq_getElem?_getD]
  rcases h1 with h1 | h1
  · rw [List.append_assoc, List.getElem?_append_left (by simp; omega), List.getElem?_take, if_pos h1]
  · rw [List.getElem?_append_right (by simp; omega), List.getElem?_drop]
    simp only [List.length_append, List.length_take]
    rw [Nat.min_eq_left (by omega), show a + xs.length + (i - (a + xs.length)) = i by omega]
theorem run_app (l : List Bool) (n : Nat) : run (l ++ List.replicate n false) = run l := by
  unfold run
  induction l with
  | nil => cases n <;> simp [List.replicate_succ]
  | cons b l ih =>
    cases b with
    | false => simp
    | true => simpa using ih
theorem held_set (l : List Hd) (t u : Nat) (h : Hd) (ht : t < l.length) : (l.set t h).getD u hz = if u = t then h else l.getD u hz := by
  simp only [List.getD_eq_getElem?_getD, List.getElem?_set]
  by_cases e : t = u
  · subst e; rw [if_pos rfl, if_pos ht, if_pos rfl]; rfl
  · rw [if_neg e, if_neg (fun h => e h.symm)]
theorem int_set (l : List Int) (t u : Nat) (h : Int) (ht : t < l.length) : (l.set t h).getD u 0 = if u = t then h else l.getD u 0 := by
  simp only [List.getD_eq_getElem?_getD, List.getElem?_set]
  by_cases e : t = u
  · subst e; rw [if_pos rfl, if_pos ht, if_pos rfl]; rfl
  · rw [if_neg e, if_neg (fun h => e h.symm)]
theorem getD_app {α : Type} (l m : List α) (i : Nat) (d : α) (h : i < l.length) : (l ++ m).getD i d = l.getD i d := by
  simp only [List.getD_eq_getElem?_getD]
  rw [List.getElem?_append_left h]
theorem app_rep {α : Type} (l : List α) (n i : Nat) (a d : α) (h : l.length ≤ i) (h2 : i < l.length + n) : (l ++ List.replicate n a).getD i d = a := by
  simp only [List.getD_eq_getElem?_getD]
  rw [List.getElem?_append_right h, List.getElem?_replicate, if_pos (by omega)]; rfl
theorem wf_put {cx : Cx} {st : St} (w : Wf cx st) {t : Nat} (ht : t < cx.prod) (hz1 : held st t ≠ hz) : 1 ≤ (held st t).n ∧ (held st t).n ≤ cx.cap ∧ 0 ≤ (held st t).f ∧ (held st t).f + (held st t).n ≤ st.taken ∧ 0 ≤ (held st t).p ∧ (held st t).p < (held st t).n ∧ ∀ i : Nat, (held st t).f + (held st t).p ≤ i → (i : Int) < (held st t).f + (held st t).n → st.put.getD i true = false :=
  (w.hw t ht).resolve_left hz1
/-! ### a step -/
theorem take_ok {cx : Cx} {st : St} {e : Ev} (h : takeC cx st e = 0) : (0 ≤ e.thread ∧ e.thread < cx.prod) ∧ held st e.thread.toNat = hz ∧ (1 ≤ e.n ∧ e.n ≤ cx.cap) ∧ cx.cnt st.taken e.pos = st.taken := by
  unfold takeC at h
  split at h
  · cases h
  next h1 =>
    split at h
    · cases h
    next h2 =>
      split at h
      · cases h
      next h3 =>
        split at h
        · cases h
        next h4 => exact ⟨by omega, isZ_yes (by simpa using h2), by omega, by simpa using h4⟩
theorem take_step {cx : Cx} {st : St} {e : Ev} {L : List On} (w : Wf cx st) (r : Rel cx st L) (hk : e.kind = 3) (hc : takeC cx st e = 0) : Wf cx (takeS st e) ∧ Rel cx (takeS st e) (L ++ [⟨e, cx.cnt st.taken e.pos⟩]) := by
  obtain ⟨ht, h0, hn, hq⟩ := take_ok hc
  have htl : e.thread.toNat < cx.prod := by omega
  have hh : ∀ u, held (takeS st e) u = if u = e.thread.toNat then ⟨st.taken, e.n, 0, false⟩ else held st u := fun u => held_set _ _ _ _ (by rw [w.lh]; exact htl)
  have nn : (e.n.toNat : Int) = e.n := by omega
  have t0 := w.t0
  have lp := w.lp
  have ld := w.ld
  have hpd : ∀ n, dataAt (L ++ [⟨e, cx.cnt st.taken e.pos⟩]) n = dataAt L n := fun n => dataAt_other (by show e.kind ≠ 5; omega) n
  constructor
  · refine ⟨?_, ?_, ?_, ?_, ?_, ?_, ?_, w.lg, w.ls⟩
    · show 0 ≤ st.taken + e.n; omega
    · show (((st.put ++ List.replicate e.n.toNat false).length : Nat) : Int) = st.taken + e.n; simp; omega
    · show (((st.data ++ List.replicate e.n.toNat 0).length : Nat) : Int) = st.taken + e.n; simp; omega
    · show st.pre = (run (st.put ++ List.replicate e.n.toNat false) : Int); rw [run_app]; exact w.pf
    · show (st.held.set _ _).length = cx.prod; rw [List.length_set]; exact w.lh
    · intro t hlt
      rw [hh]
      by_cases et : t = e.thread.toNat
      · rw [if_pos et]
        right
        refine ⟨hn.1, hn.2, t0, Int.le_refl _, Int.le_refl _, by show (0 : Int) < e.n; omega, fun i h1 h2 => ?_⟩
        show (st.put ++ List.replicate e.n.toNat false).getD i true = false
        exact app_rep _ _ _ _ _ (by simp only at h1; omega) (by simp only at h2; omega)
      · rw [if_neg et]
        rcases w.hw t hlt with h1 | ⟨h1, h2, h3, h4, h5, h6, h7⟩
        · exact .inl h1
        · refine .inr ⟨h1, h2, h3, by show _ ≤ st.taken + e.n; omega, h5, h6, fun i h8 h9 => ?_⟩
          show (st.put ++ List.replicate e.n.toNat false).getD i true = false
          rw [getD_app _ _ _ _ (by omega)]
          exact h7 i h8 h9
    · intro t h1 u h2 hne
      rw [hh, hh]
      by_cases et : t = e.thread.toNat
      · have eu : u ≠ e.thread.toNat := fun h => hne (et.trans h.symm)
        rw [if_pos et, if_neg eu]
        rcases w.hw u h2 with h3 | ⟨_, _, _, h4, _⟩
        · exact .inr (.inl h3)
        · exact .inr (.inr (.inr h4))
      · rw [if_neg et]
        by_cases eu : u = e.thread.toNat
        · rw [if_pos eu]
          rcases w.hw t h1 with h3 | ⟨_, _, _, h4, _⟩
          · exact .inl h3
          · exact .inr (.inr (.inl h4))
        · rw [if_neg eu]
          exact w.hd t h1 u h2 hne
  · refine ⟨?_, ?_, ?_, ?_, ?_, ?_, ?_, ?_⟩
    · rw [taken_snoc, if_pos hk, r.tk]; rfl
    · intro i hi
      rw [hpd]
      show _ = if (st.put ++ List.replicate e.n.toNat false).getD i false = true then some ((st.data ++ List.replicate e.n.toNat 0).getD i 0) else none
      have hi : (i : Int) < st.taken + e.n := hi
      by_cases hlt : (i : Int) < st.taken
      · rw [getD_app _ _ _ _ (by omega), getD_app _ _ _ _ (by omega)]
        exact r.pt i hlt
      · rw [app_rep _ _ _ _ _ (by omega) (by omega), if_neg (by decide)]
        exact r.po i (.inr (by omega))
    · intro n hn2
      rw [hpd]
      exact r.po n (by have hn2 : n < 0 ∨ st.taken + e.n ≤ n := hn2; omega)
    · intro t hlt
      rw [holds_snoc, hh]
      unfold hstep
      simp only [hk, reduceIte]
      by_cases et : t = e.thread.toNat
      · rw [if_pos (by omega), if_pos et, hq]
      · rw [if_neg (by omega), if_neg et]; exact r.hl t hlt
    · intro k hk2
      rw [lastOf_snoc, if_neg (by intro h; have := h.1; simp only at this; omega)]
      exact r.gt k hk2
    · intro k hk2
      rw [lastOf_snoc, if_neg (by intro h; have := h.1; simp only at this; omega)]
      exact r.sw k hk2
    · rw [gmax_snoc, if_neg (by show ¬ e.kind = 4; omega)]
      exact r.gr
    · intro x hx h5
      rcases List.mem_append.1 hx with hx | hx
      · exact r.gd x hx h5
      · rw [List.mem_singleton] at hx
        subst hx
        simp only at h5
        omega
theorem grant_ok {cx : Cx} {st : St} {e : Ev} (h : grantC cx st e = 0) : (0 ≤ e.thread ∧ e.thread < cx.prod) ∧ (held st e.thread.toNat).n ≠ 0 ∧ (held st e.thread.toNat).g = false ∧ (held st e.thread.toNat).f + (held st e.thread.toNat).n - least st.gate cx.ends ≤ cx.cap := by
  unfold grantC at h
  split at h
  · cases h
  next h1 =>
    split at h
    · cases h
    next h2 =>
      split at h
      · cases h
      next h3 =>
        refine ⟨by omega, fun h4 => h2 (.inl h4), ?_, by omega⟩
        cases h5 : (held st e.thread.toNat).g with
        | false => rfl
        | true => exact absurd (.inr h5) h2
theorem grant_step {cx : Cx} {st : St} {e : Ev} {L : List On} (w : Wf cx st) (r : Rel cx st L) (hk : e.kind = 4) (hc : grantC cx st e = 0) : Wf cx (grantS st e) ∧ Rel cx (grantS st e) (L ++ [⟨e, (held st e.thread.toNat).f + (held st e.thread.toNat).n⟩]) := by
  obtain ⟨ht, h0, hg, hs⟩ := grant_ok hc
  have htl : e.thread.toNat < cx.prod := by omega
  have hh : ∀ u, held (grantS st e) u = if u = e.thread.toNat then { held st e.thread.toNat with g := true } else held st u := fun u => held_set _ _ _ _ (by rw [w.lh]; exact htl)
  have hnz : held st e.thread.toNat ≠ hz := fun h => h0 (by rw [h]; rfl)
  have hpd : ∀ n, dataAt (L ++ [⟨e, (held st e.thread.toNat).f + (held st e.thread.toNat).n⟩]) n = dataAt L n := fun n => dataAt_other (by show e.kind ≠ 5; omega) n
  constructor
  · refine ⟨w.t0, w.lp, w.ld, w.pf, ?_, ?_, ?_, w.lg, w.ls⟩
    · show (st.held.set _ _).length = cx.prod; rw [List.length_set]; exact w.lh
    · intro t hlt
      rw [hh]
      by_cases et : t = e.thread.toNat
      · rw [if_pos et]
        exact .inr (wf_put w htl hnz)
      · rw [if_neg et]
        exact w.hw t hlt
    · intro t h1 u h2 hne
      rw [hh, hh]
      by_cases et : t = e.thread.toNat
      · have eu : u ≠ e.thread.toNat := fun h => hne (et.trans h.symm)
        rw [if_pos et, if_neg eu]
        rcases w.hd t h1 u h2 hne with h3 | h3 | h3
        · rw [et] at h3; exact absurd h3 hnz
        · exact .inr (.inl h3)
        · rw [et] at h3; exact .inr (.inr h3)
      · rw [if_neg et]
        by_cases eu : u = e.thread.toNat
        · rw [if_pos eu]
          rcases w.hd t h1 u h2 hne with h3 | h3 | h3
          · exact .inl h3
          · rw [eu] at h3; exact absurd h3 hnz
          · rw [eu] at h3; exact .inr (.inr h3)
        · rw [if_neg eu]
          exact w.hd t h1 u h2 hne
  · refine ⟨?_, ?_, ?_, ?_, ?_, ?_, ?_, ?_⟩
    · rw [taken_snoc, if_neg (by show ¬ e.kind = 3; omega), r.tk]; rfl
    · intro i hi
      rw [hpd]
      exact r.pt i hi
    · intro n hn2
      rw [hpd]
      exact r.po n hn2
    · intro t hlt
      rw [holds_snoc, hh]
      unfold hstep
      simp only [hk, reduceIte]
      by_cases et : t = e.thread.toNat
      · rw [if_pos (by omega), if_pos et, if_neg (by decide), r.hl t hlt, et]
      · rw [if_neg (by omega), if_neg et]; exact r.hl t hlt
    · intro k hk2
      rw [lastOf_snoc, if_neg (by intro h; have := h.1; simp only at this; omega)]
      exact r.gt k hk2
    · intro k hk2
      rw [lastOf_snoc, if_neg (by intro h; have := h.1; simp only at this; omega)]
      exact r.sw k hk2
    · rw [gmax_snoc, if_pos (by exact hk), r.gr]; rfl
    · intro x hx h5
      rcases List.mem_append.1 hx with hx | hx
      · exact r.gd x hx h5
      · rw [List.mem_singleton] at hx
        subst hx
        simp only at h5
        omega
theorem puts_ok {cx : Cx} {st : St} {e : Ev} (h : putsC cx st e = 0) : (0 ≤ e.thread ∧ e.thread < cx.prod) ∧ (held st e.thread.toNat).g = true ∧ (1 ≤ e.n ∧ e.n ≤ (held st e.thread.toNat).n - (held st e.thread.toNat).p) ∧ cx.cnt st.taken e.pos = (held st e.thread.toNat).f + (held st e.thread.toNat).p ∧ (e.data.length : Int) = e.n := by
  unfold putsC at h
  split at h
  · cases h
  next h1 =>
    split at h
    · cases h
    next h2 =>
      split at h
      · cases h
      next h3 =>
        split at h
        · cases h
        next h4 =>
          split at h
          · cases h
          next h5 => exact ⟨by omega, by simpa using h2, by omega, by simpa using h4, by simpa using h5⟩
theorem puts_step {cx : Cx} {st : St} {e : Ev} {L : List On} (w : Wf cx st) (r : Rel cx st L) (hk : e.kind = 5) (hc : putsC cx st e = 0) : Wf cx (putsS st e) ∧ Rel cx (putsS st e) (L ++ [⟨e, cx.cnt st.taken e.pos⟩]) := by
  obtain ⟨ht, hg, hn, hq, hdl⟩ := puts_ok hc
  have htl : e.thread.toNat < cx.prod := by omega
  have hh : ∀ u, held (putsS st e) u = if u = e.thread.toNat then afterPut (held st e.thread.toNat) e.n else held st u := fun u => held_set _ _ _ _ (by rw [w.lh]; exact htl)
  have hnz : held st e.thread.toNat ≠ hz := fun h => by rw [h] at hg; cases hg
  obtain ⟨g1, g2, g3, g4, g5, g6, g7⟩ := wf_put w htl hnz
  have lp := w.lp
  have ld := w.ld
  have hat : (putAt st e : Int) = (held st e.thread.toNat).f + (held st e.thread.toNat).p := by unfold putAt; omega
  have hrl : (List.replicate e.n.toNat true).length = e.n.toNat := by simp
  have b1 : putAt st e + (List.replicate e.n.toNat true).length ≤ st.put.length := by rw [hrl]; omega
  have b2 : putAt st e + e.data.length ≤ st.data.length := by omega
  have hset : ∀ i d, (putsS st e).put.getD i d = if putAt st e ≤ i ∧ i < putAt st e + e.n.toNat then true else st.put.getD i d := by
    intro i d
    show (setR st.put _ _).getD i d = _
    by_cases h : putAt st e ≤ i ∧ i < putAt st e + e.n.toNat
    · rw [if_pos h, setR_in _ _ _ b1 _ _ h.1 (by rw [hrl]; exact h.2), List.getD_eq_getElem?_getD, List.getElem?_replicate, if_pos (by omega)]; rfl
    · rw [if_neg h, setR_out _ _ _ b1 _ _ (by rw [hrl]; omega)]
  constructor
  · refine ⟨w.t0, ?_, ?_, rfl, ?_, ?_, ?_, w.lg, w.ls⟩
    · show (((setR st.put _ _).length : Nat) : Int) = st.taken; rw [setR_len _ _ _ b1]; exact lp
    · show (((setR st.data _ _).length : Nat) : Int) = st.taken; rw [setR_len _ _ _ b2]; exact ld
    · show (st.held.set _ _).length = cx.prod; rw [List.length_set]; exact w.lh
    · intro t hlt
      rw [hh]
      by_cases et : t = e.thread.toNat
      · rw [if_pos et]
        unfold afterPut
        split
        · exact .inl rfl
        next hne =>
          refine .inr ⟨g1, g2, g3, g4, by show 0 ≤ (held st e.thread.toNat).p + e.n; omega, by show (held st e.thread.toNat).p + e.n < (held st e.thread.toNat).n; omega, fun i h1 h2 => ?_⟩
          simp only at h1 h2
          rw [hset, if_neg (by omega)]
          exact g7 i (by omega) h2
      · rw [if_neg et]
        rcases w.hw t hlt with h1 | ⟨h1, h2, h3, h4, h5, h6, h7⟩
        · exact .inl h1
        · refine .inr ⟨h1, h2, h3, h4, h5, h6, fun i h8 h9 => ?_⟩
          rw [hset, if_neg ?_]
          · exact h7 i h8 h9
          · rcases w.hd t hlt e.thread.toNat htl et with h | h | h | h
            · rw [h] at h1; simp [hz] at h1
            · exact absurd h hnz
            · omega
            · omega
    · intro t h1 u h2 hne
      rw [hh, hh]
      by_cases et : t = e.thread.toNat
      · have eu : u ≠ e.thread.toNat := fun h => hne (et.trans h.symm)
        rw [if_pos et, if_neg eu]
        unfold afterPut
        split
        · exact .inl rfl
        · rcases w.hd t h1 u h2 hne with h3 | h3 | h3
          · rw [et] at h3; exact absurd h3 hnz
          · exact .inr (.inl h3)
          · rw [et] at h3; exact .inr (.inr h3)
      · rw [if_neg et]
        by_cases eu : u = e.thread.toNat
        · rw [if_pos eu]
          unfold afterPut
          split
          · exact .inr (.inl rfl)
          · rcases w.hd t h1 u h2 hne with h3 | h3 | h3
            · exact .inl h3
            · rw [eu] at h3; exact absurd h3 hnz
            · rw [eu] at h3; exact .inr (.inr h3)
        · rw [if_neg eu]
          exact w.hd t h1 u h2 hne
  · refine ⟨?_, ?_, ?_, ?_, ?_, ?_, ?_, ?_⟩
    · rw [taken_snoc, if_neg (by show ¬ e.kind = 3; omega), r.tk]; rfl
    · intro i hi
      rw [dataAt_snoc, hset]
      have hi : (i : Int) < st.taken := hi
      unfold atX
      simp only [hk, hq, true_and]
      by_cases h : putAt st e ≤ i ∧ i < putAt st e + e.n.toNat
      · have h7 := g7 i (by omega) (by omega)
        have h8 : dataAt L i = none := by
          rw [r.pt i hi, if_neg]
          simp only [List.getD_eq_getElem?_getD] at h7 ⊢
          rw [List.getElem?_eq_getElem (show i < st.put.length by omega)] at h7 ⊢
          simp only [Option.getD_some] at h7 ⊢
          rw [h7]; decide
        rw [h8, if_pos h, if_pos rfl, if_pos (by omega), Option.none_or]
        show _ = some ((setR st.data (putAt st e) e.data).getD i 0)
        rw [setR_in _ _ _ b2 _ _ h.1 (by omega)]
        congr 2
        omega
      · rw [if_neg (by omega), Option.or_none, if_neg h, r.pt i hi]
        show _ = if st.put.getD i false = true then some ((setR st.data (putAt st e) e.data).getD i 0) else none
        rw [setR_out _ _ _ b2 _ _ (by omega)]
    · intro n hn2
      have hn2 : n < 0 ∨ st.taken ≤ n := hn2
      rw [dataAt_snoc, r.po n hn2, Option.none_or]
      unfold atX
      rw [if_neg]
      simp only [hq]
      omega
    · intro t hlt
      rw [holds_snoc, hh]
      unfold hstep
      simp only [hk]
      by_cases et : t = e.thread.toNat
      · rw [if_pos (by omega), if_pos et, if_neg (by decide), if_neg (by decide), if_pos trivial, r.hl t hlt, et]
      · rw [if_neg (by omega), if_neg et]; exact r.hl t hlt
    · intro k hk2
      rw [lastOf_snoc, if_neg (by intro h; have := h.1; simp only at this; omega)]
      exact r.gt k hk2
    · intro k hk2
      rw [lastOf_snoc, if_neg (by intro h; have := h.1; simp only at this; omega)]
      exact r.sw k hk2
    · rw [gmax_snoc, if_neg (by show ¬ e.kind = 4; omega)]
      exact r.gr
    · intro x hx h5
      rcases List.mem_append.1 hx with hx | hx
      · exact r.gd x hx h5
      · rw [List.mem_singleton] at hx
        subst hx
        exact hdl
theorem seen_step {cx : Cx} {st : St} {e : Ev} {L : List On} (w : Wf cx st) (r : Rel cx st L) (hk : e.kind = 6) (hc : isCons cx e.thread) : Wf cx (seenS cx st e) ∧ Rel cx (seenS cx st e) (L ++ [⟨e, cx.cnt st.taken e.pos⟩]) := by
  have hkc : cons cx e.thread < cx.up.length := by unfold isCons at hc; unfold cons; omega
  have hpd : ∀ n, dataAt (L ++ [⟨e, cx.cnt st.taken e.pos⟩]) n = dataAt L n := fun n => dataAt_other (by show e.kind ≠ 5; omega) n
  have hsw : ∀ u, (seenS cx st e).saw.getD u 0 = if u = cons cx e.thread then cx.cnt st.taken e.pos else st.saw.getD u 0 := fun u => int_set _ _ _ _ (by rw [w.ls]; exact hkc)
  constructor
  · exact ⟨w.t0, w.lp, w.ld, w.pf, w.lh, w.hw, w.hd, w.lg, by show (st.saw.set _ _).length = _; rw [List.length_set]; exact w.ls⟩
  · refine ⟨?_, fun i hi => by rw [hpd]; exact r.pt i hi, fun n hn => by rw [hpd]; exact r.po n hn, ?_, ?_, ?_, ?_, ?_⟩
    · rw [taken_snoc, if_neg (by show ¬ e.kind = 3; omega), r.tk]; rfl
    · intro t hlt
      rw [holds_snoc]
      unfold hstep
      simp only [hk]
      have h := r.hl t hlt
      split
      · rw [if_neg (by decide), if_neg (by decide), if_neg (by decide)]; exact h
      · exact h
    · intro k hk2
      rw [lastOf_snoc, if_neg (by intro h; have := h.1; simp only at this; omega)]
      exact r.gt k hk2
    · intro k hk2
      rw [lastOf_snoc, hsw]
      unfold isCons at hc
      by_cases ek : k = cons cx e.thread
      · rw [if_pos ek, if_pos ⟨hk, by unfold cons at ek; show e.thread = _; omega⟩]
      · rw [if_neg ek, if_neg (fun h => ek (by have := h.2; simp only at this; unfold cons; omega))]
        exact r.sw k hk2
    · rw [gmax_snoc, if_neg (by show ¬ e.kind = 4; omega)]
      exact r.gr
    · intro x hx h5
      rcases List.mem_append.1 hx with hx | hx
      · exact r.gd x hx h5
      · rw [List.mem_singleton] at hx
        subst hx
        simp only at h5
        omega
theorem free_step {cx : Cx} {st : St} {e : Ev} {L : List On} (w : Wf cx st) (r : Rel cx st L) (hk : e.kind = 7) (hc : isCons cx e.thread) : Wf cx (freeS cx st e) ∧ Rel cx (freeS cx st e) (L ++ [⟨e, cx.cnt st.taken e.pos⟩]) := by
  have hkc : cons cx e.thread < cx.up.length := by unfold isCons at hc; unfold cons; omega
  have hpd : ∀ n, dataAt (L ++ [⟨e, cx.cnt st.taken e.pos⟩]) n = dataAt L n := fun n => dataAt_other (by show e.kind ≠ 5; omega) n
  have hsw : ∀ u, (freeS cx st e).gate.getD u 0 = if u = cons cx e.thread then cx.cnt st.taken e.pos else st.gate.getD u 0 := fun u => int_set _ _ _ _ (by rw [w.lg]; exact hkc)
  constructor
  · exact ⟨w.t0, w.lp, w.ld, w.pf, w.lh, w.hw, w.hd, by show (st.gate.set _ _).length = _; rw [List.length_set]; exact w.lg, w.ls⟩
  · refine ⟨?_, fun i hi => by rw [hpd]; exact r.pt i hi, fun n hn => by rw [hpd]; exact r.po n hn, ?_, ?_, ?_, ?_, ?_⟩
    · rw [taken_snoc, if_neg (by show ¬ e.kind = 3; omega), r.tk]; rfl
    · intro t hlt
      rw [holds_snoc]
      unfold hstep
      simp only [hk]
      have h := r.hl t hlt
      split
      · rw [if_neg (by decide), if_neg (by decide), if_neg (by decide)]; exact h
      · exact h
    · intro k hk2
      rw [lastOf_snoc, hsw]
      unfold isCons at hc
      by_cases ek : k = cons cx e.thread
      · rw [if_pos ek, if_pos ⟨hk, by unfold cons at ek; show e.thread = _; omega⟩]
      · rw [if_neg ek, if_neg (fun h => ek (by have := h.2; simp only at this; unfold cons; omega))]
        exact r.gt k hk2
    · intro k hk2
      rw [lastOf_snoc, if_neg (by intro h; have := h.1; simp only at this; omega)]
      exact r.sw k hk2
    · rw [gmax_snoc, if_neg (by show ¬ e.kind = 4; omega)]
      exact r.gr
    · intro x hx h5
      rcases List.mem_append.1 hx with hx | hx
      · exact r.gd x hx h5
      · rw [List.mem_singleton] at hx
        subst hx
        simp only at h5
        omega
end Go.Proofs.YtnnfcdffnckoiaaDoor.Mo
/- The document's model: its readers walked. -/
set_option linter.unusedVariables false
set_option linter.unusedSimpArgs false
set_option maxRecDepth 100000
namespace Go.Proofs.YtnnfcdffnckoiaaDoor.Mo
open Go.RowKit Go.Proofs.YtnnfcdffnckoiaaDoorW.PrintWords Go.Proofs.YtnnfcdffnckoiaaDoorW.PrintLast Go.Proofs.YtnnfcdffnckoiaaDoorW.PrintMore
attribute [local go_sem] max2_int min2_int max_two min_two
/-- A fact that the walk leaves alone. -/
structure Aside (p : Prop) : Prop where
  out : p
theorem i1 {i : Nat} (h : i < 4611686018427387904) : IntKind.i64.wrap ((i : Int) + 1) = ((i + 1 : Nat) : Int) := by
  rw [IntKind.wrap_i64]; omega
theorem w64 {x : Int} (h : -4611686018427387904 ≤ x ∧ x ≤ 4611686018427387904) : wrap64 x = x := by unfold wrap64; omega
theorem tn1 (m : Nat) : ((m : Int) + 1).toNat = m + 1 := by omega
theorem meas1 {m k : Nat} (h : m < k) : k - (m + 1) < k - m := by omega
theorem cell7 {w : World} {g : Nat} {c0 c1 c2 c3 c4 c5 c6 : Value} {t : TypeId} (h : w.heap[g]? = some (.cells #[c0, c1, c2, c3, c4, c5, c6] t (0, 0))) :
    w.cell? ⟨g, 0, none⟩ = some c0 ∧ w.cell? ⟨g, 1, none⟩ = some c1 ∧ w.cell? ⟨g, 2, none⟩ = some c2 ∧ w.cell? ⟨g, 3, none⟩ = some c3 ∧ w.cell? ⟨g, 4, none⟩ = some c4 ∧ w.cell? ⟨g, 5, none⟩ = some c5 ∧ w.cell? ⟨g, 6, none⟩ = some c6 := by
  refine ⟨?_, ?_, ?_, ?_, ?_, ?_, ?_⟩ <;> simp [World.cell?, h]
/-- What happened, in a row, read. -/
def OnesC (w : World) (A : Option Addr) (L : List On) : Prop := ∀ j (h : j < L.length), ∃ ad B c, A = some ad ∧ w.cell? (ad.add (j * 8)) = some (.int .i64 L[j].e.kind) ∧ w.cell? ⟨(ad.add (j * 8)).block, (ad.add (j * 8)).off + 1, none⟩ = some (.int .i64 L[j].e.thread) ∧ w.cell? ⟨(ad.add (j * 8)).block, (ad.add (j * 8)).off + 2, none⟩ = some (.int .i64 L[j].e.op) ∧ w.cell? ⟨(ad.add (j * 8)).block, (ad.add (j * 8)).off + 3, none⟩ = some (.int .i64 L[j].e.n) ∧ w.cell? ⟨(ad.add (j * 8)).block, (ad.add (j * 8)).off + 4, none⟩ = some (.int .u64 L[j].e.pos) ∧ w.cell? ⟨(ad.add (j * 8)).block, (ad.add (j * 8)).off + 5, none⟩ = some (.int .i64 L[j].e.code) ∧ w.cell? ⟨(ad.add (j * 8)).block, (ad.add (j * 8)).off + 6, none⟩ = some (.slice B L[j].e.data.length c) ∧ w.cell? ⟨(ad.add (j * 8)).block, (ad.add (j * 8)).off + 7, none⟩ = some (.int .i64 L[j].c) ∧ L[j].e.data.length ≤ c ∧ (Kd.int .i64).C w B L[j].e.data.length L[j].e.data
theorem OnesC.below {w w' : World} {A : Option Addr} {L : List On} (h : OnesC w A L) (b : Below w.heap.size w w') : OnesC w' A L := fun j hj => by
  obtain ⟨ad, B, c, e, h0, h1, h2, h3, h4, h5, h6, h7, h8, h9⟩ := h j hj
  have go : ∀ {p : Addr} {v : Value}, w.cell? p = some v → w'.cell? p = some v := fun hp => (b.cell (World.block_lt_of_cell? _ _ hp)).trans hp
  exact ⟨ad, B, c, e, go h0, go h1, go h2, go h3, go h4, go h5, go h6, go h7, h8, Kd.C_below h9 b⟩
/-- What is taken never goes round. -/
def SmallT (L : List On) : Prop := ∀ i, i ≤ L.length → 0 ≤ taken (L.take i) ∧ taken (L.take i) ≤ 1000000
theorem num_at {w : World} {A : Option Addr} {l : List Int} (h : (Kd.int .i64).C w A l.length l) (j : Nat) (hj : j < l.length) : ∃ ad, A = some ad ∧ w.cell? (ad.add j) = some (.int .i64 l[j]) := by
  obtain ⟨_, _, h3⟩ := h
  obtain ⟨ad, e, hr⟩ := h3 (by omega)
  obtain ⟨cs, g1, g2, g3⟩ := hr j _ (List.getElem?_eq_getElem hj)
  refine ⟨ad, e, ?_⟩
  have h5 := g3 0 (.int .i64 l[j]) (by rw [show cs = [.int .i64 l[j]] from g2]; rfl)
  have h6 : (Kd.int .i64).sz = 1 := rfl
  rw [h6, Nat.mul_one, Nat.add_zero] at h5
  exact h5
end Go.Proofs.YtnnfcdffnckoiaaDoor.Mo
/- The document's model: its prefix, gates, and the least of some. -/
set_option linter.unusedVariables false
set_option linter.unusedSimpArgs false
set_option maxRecDepth 100000
namespace Go.Proofs.YtnnfcdffnckoiaaDoor.Mo
open Go.RowKit Go.Proofs.YtnnfcdffnckoiaaDoorW.PrintWords Go.Proofs.YtnnfcdffnckoiaaDoorW.PrintLast Go.Proofs.YtnnfcdffnckoiaaDoorW.PrintMore
attribute [local go_sem] max2_int min2_int max_two min_two
/-- A document's model, as it is handed over. -/
structure Mp where
  vr : Int
  wd : Int
  cp : Int
  pr : Int
  sa : Int
  U : Option Addr
  un : Nat
  uc : Nat
  A : Option Addr
  C : Nat
  L : List On
structure MOk (w : World) (m : Mp) : Prop where
  c : m.L.length ≤ m.C
  o : OnesC w m.A m.L
  n : m.L.length ≤ 100000
  t : SmallT m.L
  k : ∀ x ∈ m.L, 0 ≤ x.c ∧ x.c ≤ 500000
  d : ∀ x ∈ m.L, x.e.kind = 5 → (x.e.data.length : Int) = x.e.n
  p : 0 ≤ m.pr ∧ m.pr ≤ 100
theorem MOk.below {w w' : World} {m : Mp} (h : MOk w m) (b : Below w.heap.size w w') : MOk w' m := ⟨h.c, h.o.below b, h.n, h.t, h.k, h.d, h.p⟩
/-- What is held while a list's gates are read. -/
structure LB (w0 w : World) (m : Mp) (B : Option Addr) (l : List Int) : Prop where
  b : Below w0.heap.size w0 w
  m : MOk w m
  l : (Kd.int .i64).C w B l.length l
theorem LB.step {w0 w w' : World} {m : Mp} {B : Option Addr} {l : List Int} (h : LB w0 w m B l) (b : Below w.heap.size w w') : LB w0 w' m B l := ⟨h.b.trans (b.mono h.b.size), h.m.below b, Kd.C_below h.l b⟩
end Go.Proofs.YtnnfcdffnckoiaaDoor.Mo
/- The document's model: what a producer holds. -/
set_option linter.unusedVariables false
set_option linter.unusedSimpArgs false
set_option maxRecDepth 100000
namespace Go.Proofs.YtnnfcdffnckoiaaDoor.Mo
open Go.RowKit Go.Proofs.YtnnfcdffnckoiaaDoorW.PrintWords Go.Proofs.YtnnfcdffnckoiaaDoorW.PrintLast Go.Proofs.YtnnfcdffnckoiaaDoorW.PrintMore
theorem cell4 {w : World} {g : Nat} {c0 c1 c2 c3 : Value} {t : TypeId} (h : w.heap[g]? = some (.cells #[c0, c1, c2, c3] t (0, 0))) :
    w.cell? ⟨g, 0, none⟩ = some c0 ∧ w.cell? ⟨g, 1, none⟩ = some c1 ∧ w.cell? ⟨g, 2, none⟩ = some c2 ∧ w.cell? ⟨g, 3, none⟩ = some c3 := by
  refine ⟨?_, ?_, ?_, ?_⟩ <;> simp [World.cell?, h]
/-- What stands while one looks what a producer holds: the model's box, the result's, and the one that is filled. -/
structure HQ (w0 w : World) (m : Mp) (h : Hd) : Prop where
  below : Below w0.heap.size w0 w
  box : w.heap[w0.heap.size]? = some (.cells #[.int .i64 m.vr, .int .i64 m.wd, .int .i64 m.cp, .int .i64 m.pr, .int .u64 m.sa, .slice m.U m.un m.uc, .slice m.A m.L.length m.C] 68 (0, 0))
  res : w.heap[w0.heap.size + 1]? = some (.cells #[.int .i64 0, .int .i64 0, .int .i64 0, .bool false] 103 (0, 0))
  hb : w.heap[w0.heap.size + 1 + 1]? = some (.cells #[.int .i64 h.f, .int .i64 h.n, .int .i64 h.p, .bool h.g] 103 (0, 0))
theorem HQ.step {w0 w w' : World} {m : Mp} {h : Hd} (q : HQ w0 w m h) (b : Below w.heap.size w w') : HQ w0 w' m h := ⟨q.below.trans (b.mono q.below.size), blk_below q.box b, blk_below q.res b, blk_below q.hb b⟩
theorem HQ.put {w0 w : World} {m : Mp} {h h' : Hd} (q : HQ w0 w m h) (i : Nat) (u : Value) (e : (#[.int .i64 h.f, .int .i64 h.n, .int .i64 h.p, .bool h.g] : Array Value).setIfInBounds i u = #[.int .i64 h'.f, .int .i64 h'.n, .int .i64 h'.p, .bool h'.g]) : HQ w0 (w.setCell ⟨w0.heap.size + 1 + 1, i, none⟩ u) m h' :=
  ⟨q.below.setCell (by show w0.heap.size ≤ w0.heap.size + 1 + 1; omega) _, blk_far q.box (by show w0.heap.size ≠ w0.heap.size + 1 + 1; omega) _, blk_far q.res (by show w0.heap.size + 1 ≠ w0.heap.size + 1 + 1; omega) _, blk_put q.hb i u e⟩
theorem HQ.all {w0 w : World} {m : Mp} {h : Hd} (q : HQ w0 w m h) (h' : Hd) : HQ w0 ((((w.setCell ⟨w0.heap.size + 1 + 1, 0, none⟩ (.int .i64 h'.f)).setCell ⟨w0.heap.size + 1 + 1, 1, none⟩ (.int .i64 h'.n)).setCell ⟨w0.heap.size + 1 + 1, 2, none⟩ (.int .i64 h'.p)).setCell ⟨w0.heap.size + 1 + 1, 3, none⟩ (.bool h'.g)) m h' :=
  (((q.put (h' := ⟨h'.f, h.n, h.p, h.g⟩) 0 _ rfl).put (h' := ⟨h'.f, h'.n, h.p, h.g⟩) 1 _ rfl).put (h' := ⟨h'.f, h'.n, h'.p, h.g⟩) 2 _ rfl).put 3 _ rfl
/-- What a producer holds never goes round. -/
def SmallH (L : List On) (t : Int) : Prop := ∀ i (h : i < L.length), L[i].e.kind = 5 → L[i].e.thread = t → -4611686018427387904 ≤ (holds (L.take i) t).p + L[i].e.n ∧ (holds (L.take i) t).p + L[i].e.n ≤ 4611686018427387904
theorem three {w : World} (a b c : Obj) : (((w.alloc a).alloc b).alloc c).heap[w.heap.size]? = some a ∧ (((w.alloc a).alloc b).alloc c).heap[w.heap.size + 1]? = some b ∧ (((w.alloc a).alloc b).alloc c).heap[w.heap.size + 1 + 1]? = some c ∧ Below w.heap.size w (((w.alloc a).alloc b).alloc c) := by
  have h1 := heap_alloc_new w a
  have h2 := heap_alloc_new (w.alloc a) b
  have h3 := heap_alloc_new ((w.alloc a).alloc b) c
  rw [World.size_alloc] at h2
  rw [World.size_alloc, World.size_alloc] at h3
  exact ⟨blk_alloc (blk_alloc h1 _) _, blk_alloc h2 _, h3, below_alloc (below_alloc (below_alloc (Below.refl _ _) _) _) _⟩
end Go.Proofs.YtnnfcdffnckoiaaDoor.Mo
/- Counters of a width: the program's and the document's reckoning are one. -/
set_option linter.unusedVariables false
set_option linter.unusedSimpArgs false
namespace Go.Proofs.YtnnfcdffnckoiaaDoor.Mo
open Go.RowKit Go.Proofs.YtnnfcdffnckoiaaDoorW.PrintWords QWi
def U64 (a : Int) : Prop := 0 ≤ a ∧ a < 18446744073709551616
def gapW (n a b : Int) : Int := (wide_Gap.f n a b).getD 0
def plusW (n a m : Int) : Int := (wide_Plus.f n a m).getD 0
def cutW (n a : Int) : Int := (sakiaref01_Cut.f n a).getD 0
theorem gap_f (n a b : Int) : wide_Gap.f n a b = some (gapW n a b) := by
  unfold gapW wide_Gap.f wide_Diff_uint32.f wide_Diff_uint64.f wide_signed_uint32.f wide_signed_uint64.f wide_Bits_uint32.f wide_Bits_uint64.f wide_Of_uint32.f
  simp only [Option.bind_some]
  repeat' split
  all_goals rfl
theorem plus_f (n a m : Int) : wide_Plus.f n a m = some (plusW n a m) := by
  unfold plusW wide_Plus.f wide_Of_uint32.f wide_Add_uint32.f wide_Up_uint32.f wide_Add_uint64.f
  simp only [Option.bind_some]
  repeat' split
  all_goals rfl
theorem wrapE (x : Int) : IntKind.i64.wrap x = wrap64 x := by rw [IntKind.wrap_i64]; unfold wrap64; rfl
/-- The count of a position. -/
def cntW (n s t pos : Int) : Int := wrap64 (t + gapW n pos (plusW n (cutW n s) t))
theorem drawn_below {w w' : World} (h : Drawn0 w w') : Below w.heap.size w w' := by
  obtain ⟨n, rfl⟩ := h
  exact pw_below_drewN (Below.refl _ _) n
end Go.Proofs.YtnnfcdffnckoiaaDoor.Mo
/- The document's model: the least gate, a consumer's limit, the space. -/
set_option linter.unusedVariables false
set_option linter.unusedSimpArgs false
set_option maxRecDepth 100000
namespace Go.Proofs.YtnnfcdffnckoiaaDoor.Mo
open Go.RowKit Go.Proofs.YtnnfcdffnckoiaaDoorW.PrintWords Go.Proofs.YtnnfcdffnckoiaaDoorW.PrintLast Go.Proofs.YtnnfcdffnckoiaaDoorW.PrintMore
open Graph (checkG Fine Gv endsI ref_ends fine_of)
attribute [local go_sem] max2_int min2_int max_two min_two
/-- Numbers, as they stand in a list of the program. -/
def ints (l : List Nat) : List Int := l.map fun (c : Nat) => (c : Int)
/-- What the document's model is asked with: what happened, and what it stands for. -/
structure RefOk (w : World) (m : Mp) (up : List (List Int)) (cx : Cx) (st : St) : Prop where
  mo : MOk w m
  un : m.un = up.length
  uc : up.length ≤ m.uc
  u : Kd.C (Kd.slice 3 (Kd.int .i64)) w m.U up.length up
  sm : QGc.Sm up
  ck : checkG up = 0
  us : U64 m.sa
  cp : m.cp = cx.cap
  pr : m.pr = cx.prod
  uq : up = cx.up.map ints
  eq : endsI up = ints cx.ends
  ct : ∀ t p, cx.cnt t p = cntW m.wd m.sa t p
  wf : Wf cx st
  rel : Rel cx st m.L
  hs : ∀ t, SmallH m.L t
  c64 : 1 ≤ cx.cap ∧ cx.cap ≤ 64
  p4 : cx.prod ≤ 4
  u6 : cx.up.length ≤ 6
  ub : ∀ l ∈ cx.up, ∀ c ∈ l, c < cx.up.length
  eb : ∀ c ∈ cx.ends, c < cx.up.length
  en : cx.ends ≠ []
  tb : st.taken ≤ 100000
  gb : ∀ k, 0 ≤ st.gate.getD k 0 ∧ st.gate.getD k 0 ≤ 100000
  rb : 0 ≤ st.granted ∧ st.granted ≤ 100000
theorem RefOk.below {w w' : World} {m : Mp} {up : List (List Int)} {cx : Cx} {st : St} (h : RefOk w m up cx st) (b : Below w.heap.size w w') : RefOk w' m up cx st :=
  { h with mo := h.mo.below b, u := Kd.C_below h.u b }
/-- What is held while the least gate is looked for. -/
structure VB (w0 w : World) (m : Mp) (up : List (List Int)) (cx : Cx) (st : St) : Prop where
  b : Below w0.heap.size w0 w
  r : RefOk w m up cx st
theorem VB.step {w0 w w' : World} {m : Mp} {up : List (List Int)} {cx : Cx} {st : St} (h : VB w0 w m up cx st) (b : Below w.heap.size w w') : VB w0 w' m up cx st := ⟨h.b.trans (b.mono h.b.size), h.r.below b⟩
theorem least_bd {gate : List Int} (h : ∀ k, 0 ≤ gate.getD k 0 ∧ gate.getD k 0 ≤ 100000) (l : List Nat) : 0 ≤ least gate l ∧ least gate l ≤ 100000 := by
  unfold least
  generalize gate.getD (l.headD 0) 0 = n0, h (l.headD 0) = h0
  induction l generalizing n0 with
  | nil => exact h0
  | cons x r ih =>
    simp only [List.foldl_cons]
    have := h x
    exact ih _ (by omega)
theorem run_le (l : List Bool) : run l ≤ l.length := by
  unfold run
  exact (List.takeWhile_sublist _).length_le
theorem run_before : ∀ (l : List Bool) (i : Nat), i < run l → l.getD i false = true
  | [], i, h => by simp [run] at h
  | b :: l, i, h => by
    cases b with
    | false => simp [run] at h
    | true =>
      cases i with
      | zero => rfl
      | succ i =>
        have h2 : i < run l := by
          have : run (true :: l) = run l + 1 := by simp [run]
          omega
        simpa using run_before l i h2
theorem run_at : ∀ (l : List Bool), run l < l.length → l.getD (run l) false = false
  | [], h => by simp at h
  | b :: l, h => by
    cases b with
    | false => simp [run]
    | true =>
      have e : run (true :: l) = run l + 1 := by simp [run]
      rw [e] at h ⊢
      simpa using run_at l (by simpa using h)
theorem ints_len (l : List Nat) : (ints l).length = l.length := by unfold ints; rw [List.length_map]
def spF (cp gm le : Int) : Int := if cp < (if IntKind.i64.wrap (IntKind.i64.wrap (cp - gm) + le) < 0 then 0 else IntKind.i64.wrap (IntKind.i64.wrap (cp - gm) + le)) then cp else (if IntKind.i64.wrap (IntKind.i64.wrap (cp - gm) + le) < 0 then 0 else IntKind.i64.wrap (IntKind.i64.wrap (cp - gm) + le))
def inF (cp gm le : Int) : Int := if IntKind.i64.wrap (IntKind.i64.wrap (cp - gm) + le) < 0 then 0 else IntKind.i64.wrap (IntKind.i64.wrap (cp - gm) + le)
theorem spF_ok {cp gm le : Int} (h1 : wrap64 (cp - gm) = cp - gm) (h2 : wrap64 (cp - gm + le) = cp - gm + le) : spF cp gm le = min (max (cp - gm + le) 0) cp := by
  unfold spF
  rw [wrapE (cp - gm), h1, wrapE, h2]
  clear h1 h2
  split <;> split <;> omega
end Go.Proofs.YtnnfcdffnckoiaaDoor.Mo
/- The document's model: what is wrong with a producer's event. -/
set_option linter.unusedVariables false
set_option linter.unusedSimpArgs false
set_option maxRecDepth 100000
namespace Go.Proofs.YtnnfcdffnckoiaaDoor.Mo
open Go.RowKit Go.Proofs.YtnnfcdffnckoiaaDoorW.PrintWords Go.Proofs.YtnnfcdffnckoiaaDoorW.PrintLast Go.Proofs.YtnnfcdffnckoiaaDoorW.PrintMore
theorem two {w : World} (a b : Obj) : ((w.alloc a).alloc b).heap[w.heap.size]? = some a ∧ ((w.alloc a).alloc b).heap[w.heap.size + 1]? = some b ∧ Below w.heap.size w ((w.alloc a).alloc b) := by
  have h1 := heap_alloc_new w a
  have h2 := heap_alloc_new (w.alloc a) b
  rw [World.size_alloc] at h2
  exact ⟨blk_alloc h1 _, h2, below_alloc (below_alloc (Below.refl _ _) _) _⟩
end Go.Proofs.YtnnfcdffnckoiaaDoor.Mo
/- The document's model: what is wrong with an event. -/
set_option linter.unusedVariables false
set_option linter.unusedSimpArgs false
set_option maxRecDepth 100000
namespace Go.Proofs.YtnnfcdffnckoiaaDoor.Mo
open Go.RowKit Go.Proofs.YtnnfcdffnckoiaaDoorW.PrintWords Go.Proofs.YtnnfcdffnckoiaaDoorW.PrintLast Go.Proofs.YtnnfcdffnckoiaaDoorW.PrintMore
/-- What stands while an event is looked at. -/
structure WB (w0 w : World) (m : Mp) (e : Ev) (B : Option Addr) (c : Nat) (up : List (List Int)) (cx : Cx) (st : St) : Prop where
  v : VB w0 w m up cx st
  x : w.heap[w0.heap.size]? = some (.cells #[.int .i64 m.vr, .int .i64 m.wd, .int .i64 m.cp, .int .i64 m.pr, .int .u64 m.sa, .slice m.U m.un m.uc, .slice m.A m.L.length m.C] 68 (0, 0))
  y : w.heap[w0.heap.size + 1]? = some (.cells #[.int .i64 e.kind, .int .i64 e.thread, .int .i64 e.op, .int .i64 e.n, .int .u64 e.pos, .int .i64 e.code, .slice B e.data.length c] 44 (0, 0))
theorem WB.step {w0 w w' : World} {m : Mp} {e : Ev} {B : Option Addr} {c : Nat} {up : List (List Int)} {cx : Cx} {st : St} (h : WB w0 w m e B c up cx st) (b : Below w.heap.size w w') : WB w0 w' m e B c up cx st := ⟨h.v.step b, blk_below h.x b, blk_below h.y b⟩
def I64 (t : Int) : Prop := -9223372036854775808 ≤ t ∧ t < 9223372036854775808
end Go.Proofs.YtnnfcdffnckoiaaDoor.Mo
