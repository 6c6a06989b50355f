/- The model's plain law: what the program keeps, what the document's list of events tells, and that a step keeps them alike. No program in sight. -/
import Derived.RowKit
import Derived.Test.YtnnfcdffnckoiaaDoorChecked
import Derived.Test.YtnnfcdffnckoiaaDoorWWords
import Derived.Test.YtnnfcdffnckoiaaDoorWApart
import Derived.Test.YtnnfcdffnckoiaaDoorWMore
import Derived.Test.YtnnfcdffnckoiaaDoorWLast
import Derived.RegionTactic
import Derived.BigRegion
import Derived.StillTailTactics
import Derived.Test.YtnnfcdffnckoiaaDoorQWi
import Derived.Test.YtnnfcdffnckoiaaDoorGEndss
set_option linter.unusedVariables false
set_option linter.unusedSimpArgs false
namespace Go.Proofs.YtnnfcdffnckoiaaDoor.Mo
structure Ev where
  kind : Int
  thread : Int
  op : Int
  n : Int
  pos : Int
  code : Int
  data : List Int
/-- What happened, and its count. -/
structure On where
  e : Ev
  c : Int
/-- What a producer holds. -/
structure Hd where
  f : Int
  n : Int
  p : Int
  g : Bool
def hz : Hd := ⟨0, 0, 0, false⟩
def isZ (h : Hd) : Bool := decide (h.f = 0) && decide (h.n = 0) && decide (h.p = 0) && !h.g
theorem isZ_yes {h : Hd} (e : isZ h = true) : h = hz := by
  obtain ⟨f, n, p, g⟩ := h
  unfold isZ at e
  simp only [Bool.and_eq_true, decide_eq_true_eq, Bool.not_eq_true'] at e
  obtain ⟨⟨⟨e1, e2⟩, e3⟩, e4⟩ := e
  subst e1 e2 e3 e4
  rfl
structure Cx where
  cap : Int
  prod : Nat
  up : List (List Nat)
  ends : List Nat
  cnt : Int → Int → Int
  lim : Nat
structure St where
  taken : Int
  granted : Int
  pre : Int
  held : List Hd
  put : List Bool
  data : List Int
  gate : List Int
  saw : List Int
/-! ### the program's side -/
def least (gate : List Int) (l : List Nat) : Int := l.foldl (fun n c => min n (gate.getD c 0)) (gate.getD (l.headD 0) 0)
def limit (cx : Cx) (st : St) (k : Nat) : Int := if cx.up.getD k [] = [] then st.pre else least st.gate (cx.up.getD k [])
def space (cx : Cx) (st : St) : Int := min (max (cx.cap - st.granted + least st.gate cx.ends) 0) cx.cap
def setR {α : Type} (l : List α) (a : Nat) (xs : List α) : List α := l.take a ++ xs ++ l.drop (a + xs.length)
def run (l : List Bool) : Nat := (l.takeWhile id).length
def held (st : St) (t : Nat) : Hd := st.held.getD t hz
def takeC (cx : Cx) (st : St) (e : Ev) : Int :=
  if ¬ (0 ≤ e.thread ∧ e.thread < cx.prod) then 11
  else if isZ (held st e.thread.toNat) = false then 14
  else if e.n < 1 ∨ e.n > cx.cap then 13
  else if cx.cnt st.taken e.pos ≠ st.taken then 16 else 0
def takeS (st : St) (e : Ev) : St := { st with held := st.held.set e.thread.toNat ⟨st.taken, e.n, 0, false⟩, taken := st.taken + e.n, put := st.put ++ List.replicate e.n.toNat false, data := st.data ++ List.replicate e.n.toNat 0 }
def grantC (cx : Cx) (st : St) (e : Ev) : Int :=
  if ¬ (0 ≤ e.thread ∧ e.thread < cx.prod) then 11
  else if (held st e.thread.toNat).n = 0 ∨ (held st e.thread.toNat).g = true then 14
  else if (held st e.thread.toNat).f + (held st e.thread.toNat).n - least st.gate cx.ends > cx.cap then 17 else 0
def grantS (st : St) (e : Ev) : St := { st with held := st.held.set e.thread.toNat { held st e.thread.toNat with g := true }, granted := max st.granted ((held st e.thread.toNat).f + (held st e.thread.toNat).n) }
def putsC (cx : Cx) (st : St) (e : Ev) : Int :=
  if ¬ (0 ≤ e.thread ∧ e.thread < cx.prod) then 11
  else if (held st e.thread.toNat).g = false then 14
  else if e.n < 1 ∨ e.n > (held st e.thread.toNat).n - (held st e.thread.toNat).p then 13
  else if cx.cnt st.taken e.pos ≠ (held st e.thread.toNat).f + (held st e.thread.toNat).p then 18
  else if (e.data.length : Int) ≠ e.n then 19 else 0
def afterPut (h : Hd) (n : Int) : Hd := if h.p + n = h.n then hz else { h with p := h.p + n }
def putAt (st : St) (e : Ev) : Nat := ((held st e.thread.toNat).f + (held st e.thread.toNat).p).toNat
def putsS (st : St) (e : Ev) : St :=
  { st with put := setR st.put (putAt st e) (List.replicate e.n.toNat true), data := setR st.data (putAt st e) e.data, pre := (run (setR st.put (putAt st e) (List.replicate e.n.toNat true)) : Int), held := st.held.set e.thread.toNat (afterPut (held st e.thread.toNat) e.n) }
def isCons (cx : Cx) (t : Int) : Prop := (cx.prod : Int) ≤ t ∧ t < cx.prod + cx.up.length
instance (cx : Cx) (t : Int) : Decidable (isCons cx t) := by unfold isCons; infer_instance
def cons (cx : Cx) (t : Int) : Nat := (t - cx.prod).toNat
def seenC (cx : Cx) (st : St) (e : Ev) : Int :=
  if ¬ isCons cx e.thread then 11
  else if cx.cnt st.taken e.pos < st.saw.getD (cons cx e.thread) 0 then 18
  else if cx.cnt st.taken e.pos > limit cx st (cons cx e.thread) then 17 else 0
def seenS (cx : Cx) (st : St) (e : Ev) : St := { st with saw := st.saw.set (cons cx e.thread) (cx.cnt st.taken e.pos) }
def freeC (cx : Cx) (st : St) (e : Ev) : Int :=
  if ¬ isCons cx e.thread then 11
  else if cx.cnt st.taken e.pos ≤ st.gate.getD (cons cx e.thread) 0 ∨ cx.cnt st.taken e.pos > st.saw.getD (cons cx e.thread) 0 then 18 else 0
def freeS (cx : Cx) (st : St) (e : Ev) : St := { st with gate := st.gate.set (cons cx e.thread) (cx.cnt st.taken e.pos) }
def code (cx : Cx) (st : St) (e : Ev) : Int :=
  if e.kind = 3 then takeC cx st e else if e.kind = 4 then grantC cx st e else if e.kind = 5 then putsC cx st e
  else if e.kind = 6 then seenC cx st e else if e.kind = 7 then freeC cx st e else if e.kind = 1 ∨ e.kind = 2 then 0 else 12
def next (cx : Cx) (st : St) (e : Ev) : St :=
  if e.kind = 3 then takeS st e else if e.kind = 4 then grantS st e else if e.kind = 5 then putsS st e
  else if e.kind = 6 then seenS cx st e else if e.kind = 7 then freeS cx st e else st
def step (cx : Cx) (st : St) (e : Ev) : St := if code cx st e = 0 then next cx st e else st
def st0 (cx : Cx) : St := ⟨0, 0, 0, List.replicate cx.prod hz, [], [], List.replicate cx.up.length 0, List.replicate cx.up.length 0⟩
/-! ### the document's side -/
def taken (L : List On) : Int := L.foldl (fun n x => if x.e.kind = 3 then n + x.e.n else n) 0
def hstep (t : Int) (h : Hd) (x : On) : Hd :=
  if x.e.thread = t then
    if x.e.kind = 3 then ⟨x.c, x.e.n, 0, false⟩
    else if x.e.kind = 4 then { h with g := true }
    else if x.e.kind = 5 then afterPut h x.e.n
    else h
  else h
def holds (L : List On) (t : Int) : Hd := L.foldl (hstep t) hz
def atX (x : On) (n : Int) : Option Int := if x.e.kind = 5 ∧ 0 ≤ n - x.c ∧ n - x.c < x.e.n then some (x.e.data.getD (n - x.c).toNat 0) else none
def dataAt (L : List On) (n : Int) : Option Int := L.findSome? (fun x => atX x n)
def lastOf (P : Int) (L : List On) (k kind : Int) : Int := L.foldl (fun n x => if x.e.kind = kind ∧ x.e.thread = P + k then x.c else n) 0
def gmax (L : List On) : Int := L.foldl (fun n x => if x.e.kind = 4 then max n x.c else n) 0
def cOf (cx : Cx) (st : St) (e : Ev) : Int := if e.kind = 4 then (held st e.thread.toNat).f + (held st e.thread.toNat).n else cx.cnt st.taken e.pos
theorem taken_snoc (L : List On) (x : On) : taken (L ++ [x]) = if x.e.kind = 3 then taken L + x.e.n else taken L := by simp [taken]
theorem holds_snoc (L : List On) (x : On) (t : Int) : holds (L ++ [x]) t = hstep t (holds L t) x := by simp [holds]
theorem dataAt_snoc (L : List On) (x : On) (n : Int) : dataAt (L ++ [x]) n = (dataAt L n).or (atX x n) := by
  unfold dataAt
  rw [List.findSome?_append]
  congr 1
  simp only [List.findSome?_cons, List.findSome?_nil]
  cases atX x n <;> rfl
theorem lastOf_snoc (P : Int) (L : List On) (x : On) (k kind : Int) : lastOf P (L ++ [x]) k kind = if x.e.kind = kind ∧ x.e.thread = P + k then x.c else lastOf P L k kind := by simp [lastOf]
theorem gmax_snoc (L : List On) (x : On) : gmax (L ++ [x]) = if x.e.kind = 4 then max (gmax L) x.c else gmax L := by simp [gmax]
theorem dataAt_other {L : List On} {x : On} (h : x.e.kind ≠ 5) (n : Int) : dataAt (L ++ [x]) n = dataAt L n := by
  rw [dataAt_snoc]
  have : atX x n = none := by unfold atX; rw [if_neg (fun h2 => h h2.1)]
  rw [this, Option.or_none]
/-! ### what stands always -/
structure Wf (cx : Cx) (st : St) : Prop where
  t0 : 0 ≤ st.taken
  lp : (st.put.length : Int) = st.taken
  ld : (st.data.length : Int) = st.taken
  pf : st.pre = (run st.put : Int)
  lh : st.held.length = cx.prod
  hw : ∀ t < cx.prod, held st t = hz ∨ (1 ≤ (held st t).n ∧ (held st t).n ≤ cx.cap ∧ 0 ≤ (held st t).f ∧ (held st t).f + (held st t).n ≤ st.taken ∧ 0 ≤ (held st t).p ∧ (held st t).p < (held st t).n ∧ ∀ i : Nat, (held st t).f + (held st t).p ≤ i → (i : Int) < (held st t).f + (held st t).n → st.put.getD i true = false)
  hd : ∀ t < cx.prod, ∀ u < cx.prod, t ≠ u → held st t = hz ∨ held st u = hz ∨ (held st t).f + (held st t).n ≤ (held st u).f ∨ (held st u).f + (held st u).n ≤ (held st t).f
  lg : st.gate.length = cx.up.length
  ls : st.saw.length = cx.up.length
structure Rel (cx : Cx) (st : St) (L : List On) : Prop where
  tk : taken L = st.taken
  pt : ∀ i : Nat, (i : Int) < st.taken → dataAt L i = if st.put.getD i false = true then some (st.data.getD i 0) else none
  po : ∀ n : Int, n < 0 ∨ st.taken ≤ n → dataAt L n = none
  hl : ∀ t < cx.prod, holds L t = held st t
  gt : ∀ k < cx.up.length, lastOf cx.prod L k 7 = st.gate.getD k 0
  sw : ∀ k < cx.up.length, lastOf cx.prod L k 6 = st.saw.getD k 0
  gr : gmax L = st.granted
  gd : ∀ x ∈ L, x.e.kind = 5 → (x.e.data.length : Int) = x.e.n
theorem setR_len {α : Type} (l : List α) (a : Nat) (xs : List α) (h : a + xs.length ≤ l.length) : (setR l a xs).length = l.length := by
  unfold setR; simp; omega
theorem setR_in {α : Type} (l : List α) (a : Nat) (xs : List α) (h : a + xs.length ≤ l.length) (i : Nat) (d : α) (h1 : a ≤ i) (h2 : i < a + xs.length) : (setR l a xs).getD i d = xs.getD (i - a) d := by
  unfold setR
  simp only [List.getD_eq_getElem?_getD]
  rw [List.append_assoc, List.getElem?_append_right (by simp; omega), List.getElem?_append_left (by simp; omega)]
  simp only [List.length_take]
  rw [Nat.min_eq_left (by omega)]
theorem setR_out {α : Type} (l : List α) (a : Nat) (xs : List α) (h : a + xs.length ≤ l.length) (i : Nat) (d : α) (h1 : i < a ∨ a + xs.length ≤ i) : (setR l a xs).getD i d = l.getD i d := by
  unfold setR
  simp only [List.getD_eq_getElem?_getD]
  rcases h1 with h1 | h1
  · rw [List.append_assoc, List.getElem?_append_left (by simp; omega), List.getElem?_take, if_pos h1]
  · rw [List.getElem?_append_right (by simp; omega), List.getElem?_drop]
    simp only [List.length_append, List.length_take]
    rw [Nat.min_eq_left (by omega), show a + xs.length + (i - (a + xs.length)) = i by omega]
theorem run_app (l : List Bool) (n : Nat) : run (l ++ List.replicate n false) = run l := by
  unfold run
  induction l with
  | nil => cases n <;> simp [List.replicate_succ]
  | cons b l ih =>
    cases b with
    | false => simp
    | true => simpa using ih
theorem held_set (l : List Hd) (t u : Nat) (h : Hd) (ht : t < l.length) : (l.set t h).getD u hz = if u = t then h else l.getD u hz := by
  simp only [List.getD_eq_getElem?_getD, List.getElem?_set]
  by_cases e : t = u
  · subst e; rw [if_pos rfl, if_pos ht, if_pos rfl]; rfl
  · rw [if_neg e, if_neg (fun h => e h.symm)]
theorem int_set (l : List Int) (t u : Nat) (h : Int) (ht : t < l.length) : (l.set t h).getD u 0 = if u = t then h else l.getD u 0 := by
  simp only [List.getD_eq_getElem?_getD, List.getElem?_set]
  by_cases e : t = u
  · subst e; rw [if_pos rfl, if_pos ht, if_pos rfl]; rfl
  · rw [if_neg e, if_neg (fun h => e h.symm)]
theorem getD_app {α : Type} (l m : List α) (i : Nat) (d : α) (h : i < l.length) : (l ++ m).getD i d = l.getD i d := by
  simp only [List.getD_eq_getElem?_getD]
  rw [List.getElem?_append_left h]
theorem app_rep {α : Type} (l : List α) (n i : Nat) (a d : α) (h : l.length ≤ i) (h2 : i < l.length + n) : (l ++ List.replicate n a).getD i d = a := by
  simp only [List.getD_eq_getElem?_getD]
  rw [List.getElem?_append_right h, List.getElem?_replicate, if_pos (by omega)]; rfl
theorem wf_put {cx : Cx} {st : St} (w : Wf cx st) {t : Nat} (ht : t < cx.prod) (hz1 : held st t ≠ hz) : 1 ≤ (held st t).n ∧ (held st t).n ≤ cx.cap ∧ 0 ≤ (held st t).f ∧ (held st t).f + (held st t).n ≤ st.taken ∧ 0 ≤ (held st t).p ∧ (held st t).p < (held st t).n ∧ ∀ i : Nat, (held st t).f + (held st t).p ≤ i → (i : Int) < (held st t).f + (held st t).n → st.put.getD i true = false :=
  (w.hw t ht).resolve_left hz1
/-! ### a step -/
theorem take_ok {cx : Cx} {st : St} {e : Ev} (h : takeC cx st e = 0) : (0 ≤ e.thread ∧ e.thread < cx.prod) ∧ held st e.thread.toNat = hz ∧ (1 ≤ e.n ∧ e.n ≤ cx.cap) ∧ cx.cnt st.taken e.pos = st.taken := by
  unfold takeC at h
  split at h
  · cases h
  next h1 =>
    split at h
    · cases h
    next h2 =>
      split at h
      · cases h
      next h3 =>
        split at h
        · cases h
        next h4 => exact ⟨by omega, isZ_yes (by simpa using h2), by omega, by simpa using h4⟩
theorem take_step {cx : Cx} {st : St} {e : Ev} {L : List On} (w : Wf cx st) (r : Rel cx st L) (hk : e.kind = 3) (hc : takeC cx st e = 0) : Wf cx (takeS st e) ∧ Rel cx (takeS st e) (L ++ [⟨e, cx.cnt st.taken e.pos⟩]) := by
  obtain ⟨ht, h0, hn, hq⟩ := take_ok hc
  have htl : e.thread.toNat < cx.prod := by omega
  have hh : ∀ u, held (takeS st e) u = if u = e.thread.toNat then ⟨st.taken, e.n, 0, false⟩ else held st u := fun u => held_set _ _ _ _ (by rw [w.lh]; exact htl)
  have nn : (e.n.toNat : Int) = e.n := by omega
  have t0 := w.t0
  have lp := w.lp
  have ld := w.ld
  have hpd : ∀ n, dataAt (L ++ [⟨e, cx.cnt st.taken e.pos⟩]) n = dataAt L n := fun n => dataAt_other (by show e.kind ≠ 5; omega) n
  constructor
  · refine ⟨?_, ?_, ?_, ?_, ?_, ?_, ?_, w.lg, w.ls⟩
    · show 0 ≤ st.taken + e.n; omega
    · show (((st.put ++ List.replicate e.n.toNat false).length : Nat) : Int) = st.taken + e.n; simp; omega
    · show (((st.data ++ List.replicate e.n.toNat 0).length : Nat) : Int) = st.taken + e.n; simp; omega
    · show st.pre = (run (st.put ++ List.replicate e.n.toNat false) : Int); rw [run_app]; exact w.pf
    · show (st.held.set _ _).length = cx.prod; rw [List.length_set]; exact w.lh
    · intro t hlt
      rw [hh]
      by_cases et : t = e.thread.toNat
      · rw [if_pos et]
        right
        refine ⟨hn.1, hn.2, t0, Int.le_refl _, Int.le_refl _, by show (0 : Int) < e.n; omega, fun i h1 h2 => ?_⟩
        show (st.put ++ List.replicate e.n.toNat false).getD i true = false
        exact app_rep _ _ _ _ _ (by simp only at h1; omega) (by simp only at h2; omega)
      · rw [if_neg et]
        rcases w.hw t hlt with h1 | ⟨h1, h2, h3, h4, h5, h6, h7⟩
        · exact .inl h1
        · refine .inr ⟨h1, h2, h3, by show _ ≤ st.taken + e.n; omega, h5, h6, fun i h8 h9 => ?_⟩
          show (st.put ++ List.replicate e.n.toNat false).getD i true = false
          rw [getD_app _ _ _ _ (by omega)]
          exact h7 i h8 h9
    · intro t h1 u h2 hne
      rw [hh, hh]
      by_cases et : t = e.thread.toNat
      · have eu : u ≠ e.thread.toNat := fun h => hne (et.trans h.symm)
        rw [if_pos et, if_neg eu]
        rcases w.hw u h2 with h3 | ⟨_, _, _, h4, _⟩
        · exact .inr (.inl h3)
        · exact .inr (.inr (.inr h4))
      · rw [if_neg et]
        by_cases eu : u = e.thread.toNat
        · rw [if_pos eu]
          rcases w.hw t h1 with h3 | ⟨_, _, _, h4, _⟩
          · exact .inl h3
          · exact .inr (.inr (.inl h4))
        · rw [if_neg eu]
          exact w.hd t h1 u h2 hne
  · refine ⟨?_, ?_, ?_, ?_, ?_, ?_, ?_, ?_⟩
    · rw [taken_snoc, if_pos hk, r.tk]; rfl
    · intro i hi
      rw [hpd]
      show _ = if (st.put ++ List.replicate e.n.toNat false).getD i false = true then some ((st.data ++ List.replicate e.n.toNat 0).getD i 0) else none
      have hi : (i : Int) < st.taken + e.n := hi
      by_cases hlt : (i : Int) < st.taken
      · rw [getD_app _ _ _ _ (by omega), getD_app _ _ _ _ (by omega)]
        exact r.pt i hlt
      · rw [app_rep _ _ _ _ _ (by omega) (by omega), if_neg (by decide)]
        exact r.po i (.inr (by omega))
    · intro n hn2
      rw [hpd]
      exact r.po n (by have hn2 : n < 0 ∨ st.taken + e.n ≤ n := hn2; omega)
    · intro t hlt
      rw [holds_snoc, hh]
      unfold hstep
      simp only [hk, reduceIte]
      by_cases et : t = e.thread.toNat
      · rw [if_pos (by omega), if_pos et, hq]
      · rw [if_neg (by omega), if_neg et]; exact r.hl t hlt
    · intro k hk2
      rw [lastOf_snoc, if_neg (by intro h; have := h.1; simp only at this; omega)]
      exact r.gt k hk2
    · intro k hk2
      rw [lastOf_snoc, if_neg (by intro h; have := h.1; simp only at this; omega)]
      exact r.sw k hk2
    · rw [gmax_snoc, if_neg (by show ¬ e.kind = 4; omega)]
      exact r.gr
    · intro x hx h5
      rcases List.mem_append.1 hx with hx | hx
      · exact r.gd x hx h5
      · rw [List.mem_singleton] at hx
        subst hx
        simp only at h5
        omega
theorem grant_ok {cx : Cx} {st : St} {e : Ev} (h : grantC cx st e = 0) : (0 ≤ e.thread ∧ e.thread < cx.prod) ∧ (held st e.thread.toNat).n ≠ 0 ∧ (held st e.thread.toNat).g = false ∧ (held st e.thread.toNat).f + (held st e.thread.toNat).n - least st.gate cx.ends ≤ cx.cap := by
  unfold grantC at h
  split at h
  · cases h
  next h1 =>
    split at h
    · cases h
    next h2 =>
      split at h
      · cases h
      next h3 =>
        refine ⟨by omega, fun h4 => h2 (.inl h4), ?_, by omega⟩
        cases h5 : (held st e.thread.toNat).g with
        | false => rfl
        | true => exact absurd (.inr h5) h2
theorem grant_step {cx : Cx} {st : St} {e : Ev} {L : List On} (w : Wf cx st) (r : Rel cx st L) (hk : e.kind = 4) (hc : grantC cx st e = 0) : Wf cx (grantS st e) ∧ Rel cx (grantS st e) (L ++ [⟨e, (held st e.thread.toNat).f + (held st e.thread.toNat).n⟩]) := by
  obtain ⟨ht, h0, hg, hs⟩ := grant_ok hc
  have htl : e.thread.toNat < cx.prod := by omega
  have hh : ∀ u, held (grantS st e) u = if u = e.thread.toNat then { held st e.thread.toNat with g := true } else held st u := fun u => held_set _ _ _ _ (by rw [w.lh]; exact htl)
  have hnz : held st e.thread.toNat ≠ hz := fun h => h0 (by rw [h]; rfl)
  have hpd : ∀ n, dataAt (L ++ [⟨e, (held st e.thread.toNat).f + (held st e.thread.toNat).n⟩]) n = dataAt L n := fun n => dataAt_other (by show e.kind ≠ 5; omega) n
  constructor
  · refine ⟨w.t0, w.lp, w.ld, w.pf, ?_, ?_, ?_, w.lg, w.ls⟩
    · show (st.held.set _ _).length = cx.prod; rw [List.length_set]; exact w.lh
    · intro t hlt
      rw [hh]
      by_cases et : t = e.thread.toNat
      · rw [if_pos et]
        exact .inr (wf_put w htl hnz)
      · rw [if_neg et]
        exact w.hw t hlt
    · intro t h1 u h2 hne
      rw [hh, hh]
      by_cases et : t = e.thread.toNat
      · have eu : u ≠ e.thread.toNat := fun h => hne (et.trans h.symm)
        rw [if_pos et, if_neg eu]
        rcases w.hd t h1 u h2 hne with h3 | h3 | h3
        · rw [et] at h3; exact absurd h3 hnz
        · exact .inr (.inl h3)
        · rw [et] at h3; exact .inr (.inr h3)
      · rw [if_neg et]
        by_cases eu : u = e.thread.toNat
        · rw [if_pos eu]
          rcases w.hd t h1 u h2 hne with h3 | h3 | h3
          · exact .inl h3
          · rw [eu] at h3; exact absurd h3 hnz
          · rw [eu] at h3; exact .inr (.inr h3)
        · rw [if_neg eu]
          exact w.hd t h1 u h2 hne
  · refine ⟨?_, ?_, ?_, ?_, ?_, ?_, ?_, ?_⟩
    · rw [taken_snoc, if_neg (by show ¬ e.kind = 3; omega), r.tk]; rfl
    · intro i hi
      rw [hpd]
      exact r.pt i hi
    · intro n hn2
      rw [hpd]
      exact r.po n hn2
    · intro t hlt
      rw [holds_snoc, hh]
      unfold hstep
      simp only [hk, reduceIte]
      by_cases et : t = e.thread.toNat
      · rw [if_pos (by omega), if_pos et, if_neg (by decide), r.hl t hlt, et]
      · rw [if_neg (by omega), if_neg et]; exact r.hl t hlt
    · intro k hk2
      rw [lastOf_snoc, if_neg (by intro h; have := h.1; simp only at this; omega)]
      exact r.gt k hk2
    · intro k hk2
      rw [lastOf_snoc, if_neg (by intro h; have := h.1; simp only at this; omega)]
      exact r.sw k hk2
    · rw [gmax_snoc, if_pos (by exact hk), r.gr]; rfl
    · intro x hx h5
      rcases List.mem_append.1 hx with hx | hx
      · exact r.gd x hx h5
      · rw [List.mem_singleton] at hx
        subst hx
        simp only at h5
        omega
theorem puts_ok {cx : Cx} {st : St} {e : Ev} (h : putsC cx st e = 0) : (0 ≤ e.thread ∧ e.thread < cx.prod) ∧ (held st e.thread.toNat).g = true ∧ (1 ≤ e.n ∧ e.n ≤ (held st e.thread.toNat).n - (held st e.thread.toNat).p) ∧ cx.cnt st.taken e.pos = (held st e.thread.toNat).f + (held st e.thread.toNat).p ∧ (e.data.length : Int) = e.n := by
  unfold putsC at h
  split at h
  · cases h
  next h1 =>
    split at h
    · cases h
    next h2 =>
      split at h
      · cases h
      next h3 =>
        split at h
        · cases h
        next h4 =>
          split at h
          · cases h
          next h5 => exact ⟨by omega, by simpa using h2, by omega, by simpa using h4, by simpa using h5⟩
theorem puts_step {cx : Cx} {st : St} {e : Ev} {L : List On} (w : Wf cx st) (r : Rel cx st L) (hk : e.kind = 5) (hc : putsC cx st e = 0) : Wf cx (putsS st e) ∧ Rel cx (putsS st e) (L ++ [⟨e, cx.cnt st.taken e.pos⟩]) := by
  obtain ⟨ht, hg, hn, hq, hdl⟩ := puts_ok hc
  have htl : e.thread.toNat < cx.prod := by omega
  have hh : ∀ u, held (putsS st e) u = if u = e.thread.toNat then afterPut (held st e.thread.toNat) e.n else held st u := fun u => held_set _ _ _ _ (by rw [w.lh]; exact htl)
  have hnz : held st e.thread.toNat ≠ hz := fun h => by rw [h] at hg; cases hg
  obtain ⟨g1, g2, g3, g4, g5, g6, g7⟩ := wf_put w htl hnz
  have lp := w.lp
  have ld := w.ld
  have hat : (putAt st e : Int) = (held st e.thread.toNat).f + (held st e.thread.toNat).p := by unfold putAt; omega
  have hrl : (List.replicate e.n.toNat true).length = e.n.toNat := by simp
  have b1 : putAt st e + (List.replicate e.n.toNat true).length ≤ st.put.length := by rw [hrl]; omega
  have b2 : putAt st e + e.data.length ≤ st.data.length := by omega
  have hset : ∀ i d, (putsS st e).put.getD i d = if putAt st e ≤ i ∧ i < putAt st e + e.n.toNat then true else st.put.getD i d := by
    intro i d
    show (setR st.put _ _).getD i d = _
    by_cases h : putAt st e ≤ i ∧ i < putAt st e + e.n.toNat
    · rw [if_pos h, setR_in _ _ _ b1 _ _ h.1 (by rw [hrl]; exact h.2), List.getD_eq_getElem?_getD, List.getElem?_replicate, if_pos (by omega)]; rfl
    · rw [if_neg h, setR_out _ _ _ b1 _ _ (by rw [hrl]; omega)]
  constructor
  · refine ⟨w.t0, ?_, ?_, rfl, ?_, ?_, ?_, w.lg, w.ls⟩
    · show (((setR st.put _ _).length : Nat) : Int) = st.taken; rw [setR_len _ _ _ b1]; exact lp
    · show (((setR st.data _ _).length : Nat) : Int) = st.taken; rw [setR_len _ _ _ b2]; exact ld
    · show (st.held.set _ _).length = cx.prod; rw [List.length_set]; exact w.lh
    · intro t hlt
      rw [hh]
      by_cases et : t = e.thread.toNat
      · rw [if_pos et]
        unfold afterPut
        split
        · exact .inl rfl
        next hne =>
          refine .inr ⟨g1, g2, g3, g4, by show 0 ≤ (held st e.thread.toNat).p + e.n; omega, by show (held st e.thread.toNat).p + e.n < (held st e.thread.toNat).n; omega, fun i h1 h2 => ?_⟩
          simp only at h1 h2
          rw [hset, if_neg (by omega)]
          exact g7 i (by omega) h2
      · rw [if_neg et]
        rcases w.hw t hlt with h1 | ⟨h1, h2, h3, h4, h5, h6, h7⟩
        · exact .inl h1
        · refine .inr ⟨h1, h2, h3, h4, h5, h6, fun i h8 h9 => ?_⟩
          rw [hset, if_neg ?_]
          · exact h7 i h8 h9
          · rcases w.hd t hlt e.thread.toNat htl et with h | h | h | h
            · rw [h] at h1; simp [hz] at h1
            · exact absurd h hnz
            · omega
            · omega
    · intro t h1 u h2 hne
      rw [hh, hh]
      by_cases et : t = e.thread.toNat
      · have eu : u ≠ e.thread.toNat := fun h => hne (et.trans h.symm)
        rw [if_pos et, if_neg eu]
        unfold afterPut
        split
        · exact .inl rfl
        · rcases w.hd t h1 u h2 hne with h3 | h3 | h3
          · rw [et] at h3; exact absurd h3 hnz
          · exact .inr (.inl h3)
          · rw [et] at h3; exact .inr (.inr h3)
      · rw [if_neg et]
        by_cases eu : u = e.thread.toNat
        · rw [if_pos eu]
          unfold afterPut
          split
          · exact .inr (.inl rfl)
          · rcases w.hd t h1 u h2 hne with h3 | h3 | h3
            · exact .inl h3
            · rw [eu] at h3; exact absurd h3 hnz
            · rw [eu] at h3; exact .inr (.inr h3)
        · rw [if_neg eu]
          exact w.hd t h1 u h2 hne
  · refine ⟨?_, ?_, ?_, ?_, ?_, ?_, ?_, ?_⟩
    · rw [taken_snoc, if_neg (by show ¬ e.kind = 3; omega), r.tk]; rfl
    · intro i hi
      rw [dataAt_snoc, hset]
      have hi : (i : Int) < st.taken := hi
      unfold atX
      simp only [hk, hq, true_and]
      by_cases h : putAt st e ≤ i ∧ i < putAt st e + e.n.toNat
      · have h7 := g7 i (by omega) (by omega)
        have h8 : dataAt L i = none := by
          rw [r.pt i hi, if_neg]
          simp only [List.getD_eq_getElem?_getD] at h7 ⊢
          rw [List.getElem?_eq_getElem (show i < st.put.length by omega)] at h7 ⊢
          simp only [Option.getD_some] at h7 ⊢
          rw [h7]; decide
        rw [h8, if_pos h, if_pos rfl, if_pos (by omega), Option.none_or]
        show _ = some ((setR st.data (putAt st e) e.data).getD i 0)
        rw [setR_in _ _ _ b2 _ _ h.1 (by omega)]
        congr 2
        omega
      · rw [if_neg (by omega), Option.or_none, if_neg h, r.pt i hi]
        show _ = if st.put.getD i false = true then some ((setR st.data (putAt st e) e.data).getD i 0) else none
        rw [setR_out _ _ _ b2 _ _ (by omega)]
    · intro n hn2
      have hn2 : n < 0 ∨ st.taken ≤ n := hn2
      rw [dataAt_snoc, r.po n hn2, Option.none_or]
      unfold atX
      rw [if_neg]
      simp only [hq]
      omega
    · intro t hlt
      rw [holds_snoc, hh]
      unfold hstep
      simp only [hk]
      by_cases et : t = e.thread.toNat
      · rw [if_pos (by omega), if_pos et, if_neg (by decide), if_neg (by decide), if_pos trivial, r.hl t hlt, et]
      · rw [if_neg (by omega), if_neg et]; exact r.hl t hlt
    · intro k hk2
      rw [lastOf_snoc, if_neg (by intro h; have := h.1; simp only at this; omega)]
      exact r.gt k hk2
    · intro k hk2
      rw [lastOf_snoc, if_neg (by intro h; have := h.1; simp only at this; omega)]
      exact r.sw k hk2
    · rw [gmax_snoc, if_neg (by show ¬ e.kind = 4; omega)]
      exact r.gr
    · intro x hx h5
      rcases List.mem_append.1 hx with hx | hx
      · exact r.gd x hx h5
      · rw [List.mem_singleton] at hx
        subst hx
        exact hdl
theorem seen_step {cx : Cx} {st : St} {e : Ev} {L : List On} (w : Wf cx st) (r : Rel cx st L) (hk : e.kind = 6) (hc : isCons cx e.thread) : Wf cx (seenS cx st e) ∧ Rel cx (seenS cx st e) (L ++ [⟨e, cx.cnt st.taken e.pos⟩]) := by
  have hkc : cons cx e.thread < cx.up.length := by unfold isCons at hc; unfold cons; omega
  have hpd : ∀ n, dataAt (L ++ [⟨e, cx.cnt st.taken e.pos⟩]) n = dataAt L n := fun n => dataAt_other (by show e.kind ≠ 5; omega) n
  have hsw : ∀ u, (seenS cx st e).saw.getD u 0 = if u = cons cx e.thread then cx.cnt st.taken e.pos else st.saw.getD u 0 := fun u => int_set _ _ _ _ (by rw [w.ls]; exact hkc)
  constructor
  · exact ⟨w.t0, w.lp, w.ld, w.pf, w.lh, w.hw, w.hd, w.lg, by show (st.saw.set _ _).length = _; rw [List.length_set]; exact w.ls⟩
  · refine ⟨?_, fun i hi => by rw [hpd]; exact r.pt i hi, fun n hn => by rw [hpd]; exact r.po n hn, ?_, ?_, ?_, ?_, ?_⟩
    · rw [taken_snoc, if_neg (by show ¬ e.kind = 3; omega), r.tk]; rfl
    · intro t hlt
      rw [holds_snoc]
      unfold hstep
      simp only [hk]
      have h := r.hl t hlt
      split
      · rw [if_neg (by decide), if_neg (by decide), if_neg (by decide)]; exact h
      · exact h
    · intro k hk2
      rw [lastOf_snoc, if_neg (by intro h; have := h.1; simp only at this; omega)]
      exact r.gt k hk2
    · intro k hk2
      rw [lastOf_snoc, hsw]
      unfold isCons at hc
      by_cases ek : k = cons cx e.thread
      · rw [if_pos ek, if_pos ⟨hk, by unfold cons at ek; show e.thread = _; omega⟩]
      · rw [if_neg ek, if_neg (fun h => ek (by have := h.2; simp only at this; unfold cons; omega))]
        exact r.sw k hk2
    · rw [gmax_snoc, if_neg (by show ¬ e.kind = 4; omega)]
      exact r.gr
    · intro x hx h5
      rcases List.mem_append.1 hx with hx | hx
      · exact r.gd x hx h5
      · rw [List.mem_singleton] at hx
        subst hx
        simp only at h5
        omega
theorem free_step {cx : Cx} {st : St} {e : Ev} {L : List On} (w : Wf cx st) (r : Rel cx st L) (hk : e.kind = 7) (hc : isCons cx e.thread) : Wf cx (freeS cx st e) ∧ Rel cx (freeS cx st e) (L ++ [⟨e, cx.cnt st.taken e.pos⟩]) := by
  have hkc : cons cx e.thread < cx.up.length := by unfold isCons at hc; unfold cons; omega
  have hpd : ∀ n, dataAt (L ++ [⟨e, cx.cnt st.taken e.pos⟩]) n = dataAt L n := fun n => dataAt_other (by show e.kind ≠ 5; omega) n
  have hsw : ∀ u, (freeS cx st e).gate.getD u 0 = if u = cons cx e.thread then cx.cnt st.taken e.pos else st.gate.getD u 0 := fun u => int_set _ _ _ _ (by rw [w.lg]; exact hkc)
  constructor
  · exact ⟨w.t0, w.lp, w.ld, w.pf, w.lh, w.hw, w.hd, by show (st.gate.set _ _).length = _; rw [List.length_set]; exact w.lg, w.ls⟩
  · refine ⟨?_, fun i hi => by rw [hpd]; exact r.pt i hi, fun n hn => by rw [hpd]; exact r.po n hn, ?_, ?_, ?_, ?_, ?_⟩
    · rw [taken_snoc, if_neg (by show ¬ e.kind = 3; omega), r.tk]; rfl
    · intro t hlt
      rw [holds_snoc]
      unfold hstep
      simp only [hk]
      have h := r.hl t hlt
      split
      · rw [if_neg (by decide), if_neg (by decide), if_neg (by decide)]; exact h
      · exact h
    · intro k hk2
      rw [lastOf_snoc, hsw]
      unfold isCons at hc
      by_cases ek : k = cons cx e.thread
      · rw [if_pos ek, if_pos ⟨hk, by unfold cons at ek; show e.thread = _; omega⟩]
      · rw [if_neg ek, if_neg (fun h => ek (by have := h.2; simp only at this; unfold cons; omega))]
        exact r.gt k hk2
    · intro k hk2
      rw [lastOf_snoc, if_neg (by intro h; have := h.1; simp only at this; omega)]
      exact r.sw k hk2
    · rw [gmax_snoc, if_neg (by show ¬ e.kind = 4; omega)]
      exact r.gr
    · intro x hx h5
      rcases List.mem_append.1 hx with hx | hx
      · exact r.gd x hx h5
      · rw [List.mem_singleton] at hx
        subst hx
        simp only at h5
        omega
end Go.Proofs.YtnnfcdffnckoiaaDoor.Mo
/- The document's model: its readers walked. -/
set_option linter.unusedVariables false
set_option linter.unusedSimpArgs false
set_option maxRecDepth 100000
namespace Go.Proofs.YtnnfcdffnckoiaaDoor.Mo
open Go.RowKit Go.Proofs.YtnnfcdffnckoiaaDoorW.PrintWords Go.Proofs.YtnnfcdffnckoiaaDoorW.PrintLast Go.Proofs.YtnnfcdffnckoiaaDoorW.PrintMore
attribute [local go_sem] max2_int min2_int max_two min_two
/-- A fact that the walk leaves alone. -/
structure Aside (p : Prop) : Prop where
  out : p
theorem i1 {i : Nat} (h : i < 4611686018427387904) : IntKind.i64.wrap ((i : Int) + 1) = ((i + 1 : Nat) : Int) := by
  rw [IntKind.wrap_i64]; omega
theorem w64 {x : Int} (h : -4611686018427387904 ≤ x ∧ x ≤ 4611686018427387904) : wrap64 x = x := by unfold wrap64; omega
theorem tn1 (m : Nat) : ((m : Int) + 1).toNat = m + 1 := by omega
theorem meas1 {m k : Nat} (h : m < k) : k - (m + 1) < k - m := by omega
theorem cell7 {w : World} {g : Nat} {c0 c1 c2 c3 c4 c5 c6 : Value} {t : TypeId} (h : w.heap[g]? = some (.cells #[c0, c1, c2, c3, c4, c5, c6] t (0, 0))) :
    w.cell? ⟨g, 0, none⟩ = some c0 ∧ w.cell? ⟨g, 1, none⟩ = some c1 ∧ w.cell? ⟨g, 2, none⟩ = some c2 ∧ w.cell? ⟨g, 3, none⟩ = some c3 ∧ w.cell? ⟨g, 4, none⟩ = some c4 ∧ w.cell? ⟨g, 5, none⟩ = some c5 ∧ w.cell? ⟨g, 6, none⟩ = some c6 := by
  refine ⟨?_, ?_, ?_, ?_, ?_, ?_, ?_⟩ <;> simp [World.cell?, h]
/-- What happened, in a row, read. -/
def OnesC (w : World) (A : Option Addr) (L : List On) : Prop := ∀ j (h : j < L.length), ∃ ad B c, A = some ad ∧ w.cell? (ad.add (j * 8)) = some (.int .i64 L[j].e.kind) ∧ w.cell? ⟨(ad.add (j * 8)).block, (ad.add (j * 8)).off + 1, none⟩ = some (.int .i64 L[j].e.thread) ∧ w.cell? ⟨(ad.add (j * 8)).block, (ad.add (j * 8)).off + 2, none⟩ = some (.int .i64 L[j].e.op) ∧ w.cell? ⟨(ad.add (j * 8)).block, (ad.add (j * 8)).off + 3, none⟩ = some (.int .i64 L[j].e.n) ∧ w.cell? ⟨(ad.add (j * 8)).block, (ad.add (j * 8)).off + 4, none⟩ = some (.int .u64 L[j].e.pos) ∧ w.cell? ⟨(ad.add (j * 8)).block, (ad.add (j * 8)).off + 5, none⟩ = some (.int .i64 L[j].e.code) ∧ w.cell? ⟨(ad.add (j * 8)).block, (ad.add (j * 8)).off + 6, none⟩ = some (.slice B L[j].e.data.length c) ∧ w.cell? ⟨(ad.add (j * 8)).block, (ad.add (j * 8)).off + 7, none⟩ = some (.int .i64 L[j].c) ∧ L[j].e.data.length ≤ c ∧ (Kd.int .i64).C w B L[j].e.data.length L[j].e.data
theorem OnesC.below {w w' : World} {A : Option Addr} {L : List On} (h : OnesC w A L) (b : Below w.heap.size w w') : OnesC w' A L := fun j hj => by
  obtain ⟨ad, B, c, e, h0, h1, h2, h3, h4, h5, h6, h7, h8, h9⟩ := h j hj
  have go : ∀ {p : Addr} {v : Value}, w.cell? p = some v → w'.cell? p = some v := fun hp => (b.cell (World.block_lt_of_cell? _ _ hp)).trans hp
  exact ⟨ad, B, c, e, go h0, go h1, go h2, go h3, go h4, go h5, go h6, go h7, h8, Kd.C_below h9 b⟩
theorem taken_take {L : List On} {i : Nat} (h : i < L.length) : taken (L.take (i + 1)) = if L[i].e.kind = 3 then taken (L.take i) + L[i].e.n else taken (L.take i) := by
  rw [List.take_succ_eq_append_getElem h, taken_snoc]
theorem gmax_take {L : List On} {i : Nat} (h : i < L.length) : gmax (L.take (i + 1)) = if L[i].e.kind = 4 then max (gmax (L.take i)) L[i].c else gmax (L.take i) := by
  rw [List.take_succ_eq_append_getElem h, gmax_snoc]
theorem lastOf_take {P : Int} {L : List On} {k kind : Int} {i : Nat} (h : i < L.length) : lastOf P (L.take (i + 1)) k kind = if L[i].e.kind = kind ∧ L[i].e.thread = P + k then L[i].c else lastOf P (L.take i) k kind := by
  rw [List.take_succ_eq_append_getElem h, lastOf_snoc]
/-- What is taken never goes round. -/
def SmallT (L : List On) : Prop := ∀ i, i ≤ L.length → 0 ≤ taken (L.take i) ∧ taken (L.take i) ≤ 1000000
set_option maxHeartbeats 4000000 in
theorem rtaken_ (w : World) (vr wd cp pr sa : Int) (U : Option Addr) (un uc : Nat) (A : Option Addr) (C : Nat) (L : List On) (hC : L.length ≤ C) (hL : OnesC w A L) (hn : L.length ≤ 100000) (hs : SmallT L) :
    Calls Tryd.prog 72 #[.agg #[.int .i64 vr, .int .i64 wd, .int .i64 cp, .int .i64 pr, .int .u64 sa, .slice U un uc, .slice A L.length C]] w fun e w' => e = .returned (.int .i64 (taken L)) ∧ Below w.heap.size w w' := by
  have HL := Aside.mk (hL.below (below_alloc (Below.refl w.heap.size w) (.cells #[.int .i64 vr, .int .i64 wd, .int .i64 cp, .int .i64 pr, .int .u64 sa, .slice U un uc, .slice A L.length C] 68)))
  have HS := Aside.mk hs
  have HN := Aside.mk hn
  have HB := Aside.mk (below_alloc (Below.refl w.heap.size w) (.cells #[.int .i64 vr, .int .i64 wd, .int .i64 cp, .int .i64 pr, .int .u64 sa, .slice U un uc, .slice A L.length C] 68))
  have HX := Aside.mk (heap_alloc_new w (.cells #[.int .i64 vr, .int .i64 wd, .int .i64 cp, .int .i64 pr, .int .u64 sa, .slice U un uc, .slice A L.length C] 68))
  clear hL hs hn
  go_enter Tryd.func72, Tryd.ntmps72
  go_upto_region 1 with (fail)
  generalize w.alloc (.cells #[.int .i64 vr, .int .i64 wd, .int .i64 cp, .int .i64 pr, .int .u64 sa, .slice U un uc, .slice A L.length C] 68) = w2 at *
  go_wp2_with fail
  go_loopw [3, 4] (fun n x wr => ∃ i : Nat, i ≤ L.length ∧ n = .int .i64 (taken (L.take i)) ∧ x = .int .i64 i ∧ wr = w2) (fun _ x _ => L.length - (intOf x).toNat)
  case atStart => exact ⟨0, Nat.zero_le _, rfl, rfl, rfl⟩
  case round =>
    obtain ⟨i, hi, rfl, rfl, rfl⟩ := hrel
    obtain ⟨e0, e1, e2, e3, e4, e5, e6⟩ := cell7 HX.out
    by_cases hlt : i < L.length
    · have t1 : decide ((i : Int) < (L.length : Int)) = true := decide_eq_true (by omega)
      have t2 : decide (i < L.length) = true := decide_eq_true hlt
      have t3 : (i : Int) < (L.length : Int) := by omega
      have HLT := Aside.mk hlt
      have ei := i1 (show i < 4611686018427387904 by have := HN.out; omega)
      obtain ⟨ad, B, c, rfl, a0, a1, a2, a3, a4, a5, a6, a7, a8, a9⟩ := HL.out i hlt
      have HTK := Aside.mk (taken_take hlt)
      have HSM := Aside.mk (HS.out (i + 1) hlt)
      generalize L[i] = x at *
      generalize taken (L.take i) = tk at *
      clear hlt hi a8 a9
      by_cases hk : x.e.kind = 3
      · have k1 : (x.e.kind == 3) = true := by rw [hk]; rfl
        rw [if_pos hk] at HTK
        have ew := w64 (show -4611686018427387904 ≤ tk + x.e.n ∧ tk + x.e.n ≤ 4611686018427387904 by have h := HSM.out; rw [HTK.out] at h; omega)
        clear hk
        go_wp2_with fail
        go_roundw
        case rel => exact ⟨i + 1, HLT.out, by first | rw [HTK.out, ew] | rw [HTK.out], by first | rfl | simp, by first | rfl | trivial⟩
        case measure =>
          simp only [intOf, tn1, Int.toNat_natCast]
          exact meas1 HLT.out
      · have k1 : (x.e.kind == 3) = false := beq_eq_false_iff_ne.2 hk
        rw [if_neg hk] at HTK
        clear hk
        go_wp2_with fail
        go_roundw
        case rel => exact ⟨i + 1, HLT.out, by rw [HTK.out], by first | rfl | simp, by first | rfl | trivial⟩
        case measure =>
          simp only [intOf, tn1, Int.toNat_natCast]
          exact meas1 HLT.out
    · obtain rfl : i = L.length := by omega
      rw [List.take_length] at *
      have t1 : decide ((L.length : Int) < (L.length : Int)) = false := decide_eq_false (by omega)
      have t2 : decide (L.length < L.length) = false := decide_eq_false (by omega)
      clear hi hlt
      go_wp2
      go_ret
      exact ⟨rfl, HB.out⟩
set_option maxHeartbeats 4000000 in
theorem rlast_ (w : World) (vr wd cp pr sa : Int) (U : Option Addr) (un uc : Nat) (A : Option Addr) (C : Nat) (L : List On) (hC : L.length ≤ C) (hL : OnesC w A L) (hn : L.length ≤ 100000) (k kind : Int) (hp : -1000 ≤ pr + k ∧ pr + k ≤ 1000) :
    Calls Tryd.prog 115 #[.agg #[.int .i64 vr, .int .i64 wd, .int .i64 cp, .int .i64 pr, .int .u64 sa, .slice U un uc, .slice A L.length C], .int .i64 k, .int .i64 kind] w fun e w' => e = .returned (.int .i64 (lastOf pr L k kind)) ∧ Below w.heap.size w w' := by
  have HL := Aside.mk (hL.below (below_alloc (Below.refl w.heap.size w) (.cells #[.int .i64 vr, .int .i64 wd, .int .i64 cp, .int .i64 pr, .int .u64 sa, .slice U un uc, .slice A L.length C] 68)))
  have HN := Aside.mk hn
  have HB := Aside.mk (below_alloc (Below.refl w.heap.size w) (.cells #[.int .i64 vr, .int .i64 wd, .int .i64 cp, .int .i64 pr, .int .u64 sa, .slice U un uc, .slice A L.length C] 68))
  have HX := Aside.mk (heap_alloc_new w (.cells #[.int .i64 vr, .int .i64 wd, .int .i64 cp, .int .i64 pr, .int .u64 sa, .slice U un uc, .slice A L.length C] 68))
  have ewk := w64 (show -4611686018427387904 ≤ pr + k ∧ pr + k ≤ 4611686018427387904 by omega)
  clear hL hn hp
  go_enter Tryd.func115, Tryd.ntmps115
  go_upto_region 1 with (fail)
  generalize w.alloc (.cells #[.int .i64 vr, .int .i64 wd, .int .i64 cp, .int .i64 pr, .int .u64 sa, .slice U un uc, .slice A L.length C] 68) = w2 at *
  go_wp2_with fail
  go_loopw [7, 8] (fun n x wr => ∃ i : Nat, i ≤ L.length ∧ n = .int .i64 (lastOf pr (L.take i) k kind) ∧ x = .int .i64 i ∧ Aside (Below w2.heap.size w2 wr)) (fun _ x _ => L.length - (intOf x).toNat)
  case atStart => exact ⟨0, Nat.zero_le _, rfl, rfl, ⟨Below.refl _ _⟩⟩
  case round =>
    obtain ⟨i, hi, rfl, rfl, HW⟩ := hrel
    obtain ⟨e0, e1, e2, e3, e4, e5, e6⟩ := cell7 (blk_below HX.out HW.out)
    by_cases hlt : i < L.length
    · have t1 : decide ((i : Int) < (L.length : Int)) = true := decide_eq_true (by omega)
      have t2 : decide (i < L.length) = true := decide_eq_true hlt
      have t3 : (i : Int) < (L.length : Int) := by omega
      have HLT := Aside.mk hlt
      have ei := i1 (show i < 4611686018427387904 by have := HN.out; omega)
      obtain ⟨ad, B, c, rfl, a0, a1, a2, a3, a4, a5, a6, a7, a8, a9⟩ := (HL.out.below HW.out) i hlt
      have HTK := Aside.mk (lastOf_take (P := pr) (k := k) (kind := kind) hlt)
      generalize L[i] = x at *
      generalize lastOf pr (L.take i) k kind = tk at *
      clear hlt hi a8 a9
      by_cases hk : x.e.kind = kind
      · have k1 : (x.e.kind == kind) = true := by rw [hk]; exact beq_self_eq_true _
        by_cases ht : x.e.thread = pr + k
        · have k2 : (x.e.thread == pr + k) = true := by rw [ht]; exact beq_self_eq_true _
          rw [if_pos ⟨hk, ht⟩] at HTK
          clear hk ht
          go_wp2_with fail
          go_region
          all_goals
            go_wp2_with fail
            go_roundw
            case rel => exact ⟨i + 1, HLT.out, by rw [HTK.out], by first | rfl | simp, ⟨below_drew1 HW.out⟩⟩
            case measure =>
              simp only [intOf, tn1, Int.toNat_natCast]
              exact meas1 HLT.out
        · have k2 : (x.e.thread == pr + k) = false := beq_eq_false_iff_ne.2 ht
          rw [if_neg (fun h => ht h.2)] at HTK
          clear hk ht
          go_wp2_with fail
          go_region
          all_goals
            go_wp2_with fail
            go_roundw
            case rel => exact ⟨i + 1, HLT.out, by rw [HTK.out], by first | rfl | simp, ⟨below_drew1 HW.out⟩⟩
            case measure =>
              simp only [intOf, tn1, Int.toNat_natCast]
              exact meas1 HLT.out
      · have k1 : (x.e.kind == kind) = false := beq_eq_false_iff_ne.2 hk
        rw [if_neg (fun h => hk h.1)] at HTK
        clear hk
        go_wp2_with fail
        go_region
        all_goals
          go_wp2_with fail
          go_roundw
          case rel => exact ⟨i + 1, HLT.out, by rw [HTK.out], by first | rfl | simp, ⟨below_drew1 HW.out⟩⟩
          case measure =>
            simp only [intOf, tn1, Int.toNat_natCast]
            exact meas1 HLT.out
    · obtain rfl : i = L.length := by omega
      rw [List.take_length] at *
      have t1 : decide ((L.length : Int) < (L.length : Int)) = false := decide_eq_false (by omega)
      have t2 : decide (L.length < L.length) = false := decide_eq_false (by omega)
      clear hi hlt
      go_wp2
      go_ret
      exact ⟨rfl, HB.out.trans (HW.out.mono HB.out.size)⟩
theorem num_at {w : World} {A : Option Addr} {l : List Int} (h : (Kd.int .i64).C w A l.length l) (j : Nat) (hj : j < l.length) : ∃ ad, A = some ad ∧ w.cell? (ad.add j) = some (.int .i64 l[j]) := by
  obtain ⟨_, _, h3⟩ := h
  obtain ⟨ad, e, hr⟩ := h3 (by omega)
  obtain ⟨cs, g1, g2, g3⟩ := hr j _ (List.getElem?_eq_getElem hj)
  refine ⟨ad, e, ?_⟩
  have h5 := g3 0 (.int .i64 l[j]) (by rw [show cs = [.int .i64 l[j]] from g2]; rfl)
  have h6 : (Kd.int .i64).sz = 1 := rfl
  rw [h6, Nat.mul_one, Nat.add_zero] at h5
  exact h5
theorem findSome_take {L : List On} {i : Nat} {n : Int} (h : i < L.length) (h2 : dataAt (L.take i) n = none) : dataAt (L.take (i + 1)) n = atX L[i] n := by
  rw [List.take_succ_eq_append_getElem h, dataAt_snoc, h2]; rfl
theorem dataAt_found {L : List On} {i : Nat} {n : Int} {v : Int} (h : i < L.length) (h2 : dataAt (L.take i) n = none) (h3 : atX L[i] n = some v) : dataAt L n = some v := by
  have h4 : dataAt (L.take (i + 1)) n = some v := by rw [findSome_take h h2, h3]
  unfold dataAt at h4 ⊢
  rw [← List.take_append_drop (i + 1) L, List.findSome?_append, h4]; rfl
set_option maxHeartbeats 4000000 in
theorem rdata_ (w : World) (vr wd cp pr sa : Int) (U : Option Addr) (un uc : Nat) (A : Option Addr) (C : Nat) (L : List On) (hC : L.length ≤ C) (hL : OnesC w A L) (hn : L.length ≤ 100000) (n : Int) (hd : ∀ x ∈ L, x.e.kind = 5 → (x.e.data.length : Int) = x.e.n) (hc : ∀ x ∈ L, -1000000 ≤ n - x.c ∧ n - x.c ≤ 1000000) :
    Calls Tryd.prog 79 #[.agg #[.int .i64 vr, .int .i64 wd, .int .i64 cp, .int .i64 pr, .int .u64 sa, .slice U un uc, .slice A L.length C], .int .i64 n] w fun e w' => e = .returned (.tuple #[.int .i64 ((dataAt L n).getD 0), .bool (dataAt L n).isSome]) ∧ Below w.heap.size w w' := by
  have HL := Aside.mk (hL.below (below_alloc (Below.refl w.heap.size w) (.cells #[.int .i64 vr, .int .i64 wd, .int .i64 cp, .int .i64 pr, .int .u64 sa, .slice U un uc, .slice A L.length C] 68)))
  have HN := Aside.mk hn
  have HB := Aside.mk (below_alloc (Below.refl w.heap.size w) (.cells #[.int .i64 vr, .int .i64 wd, .int .i64 cp, .int .i64 pr, .int .u64 sa, .slice U un uc, .slice A L.length C] 68))
  have HX := Aside.mk (heap_alloc_new w (.cells #[.int .i64 vr, .int .i64 wd, .int .i64 cp, .int .i64 pr, .int .u64 sa, .slice U un uc, .slice A L.length C] 68))
  have HD := Aside.mk hd
  have HCC := Aside.mk hc
  clear hL hn hd hc
  go_enter Tryd.func79, Tryd.ntmps79
  go_upto_region 1 with (fail)
  generalize w.alloc (.cells #[.int .i64 vr, .int .i64 wd, .int .i64 cp, .int .i64 pr, .int .u64 sa, .slice U un uc, .slice A L.length C] 68) = w2 at *
  go_wp2_with fail
  go_loopw [6] (fun x wr => ∃ i : Nat, i ≤ L.length ∧ x = .int .i64 i ∧ Aside (dataAt (L.take i) n = none) ∧ Aside (Below w2.heap.size w2 wr)) (fun x _ => L.length - (intOf x).toNat)
  case atStart => exact ⟨0, Nat.zero_le _, rfl, ⟨rfl⟩, ⟨Below.refl _ _⟩⟩
  case round =>
    obtain ⟨i, hi, rfl, HNO, HW⟩ := hrel
    obtain ⟨e0, e1, e2, e3, e4, e5, e6⟩ := cell7 (blk_below HX.out HW.out)
    by_cases hlt : i < L.length
    · have t1 : decide ((i : Int) < (L.length : Int)) = true := decide_eq_true (by omega)
      have t2 : decide (i < L.length) = true := decide_eq_true hlt
      have t3 : (i : Int) < (L.length : Int) := by omega
      have HLT := Aside.mk hlt
      have ei := i1 (show i < 4611686018427387904 by have := HN.out; omega)
      obtain ⟨ad, B, c, rfl, a0, a1, a2, a3, a4, a5, a6, a7, a8, a9⟩ := (HL.out.below HW.out) i hlt
      have HF := Aside.mk (fun v => dataAt_found (v := v) hlt HNO.out)
      have HNX := Aside.mk (findSome_take hlt HNO.out)
      have HDX := Aside.mk (HD.out _ (List.getElem_mem hlt))
      have ew := w64 (show -4611686018427387904 ≤ n - L[i].c ∧ n - L[i].c ≤ 4611686018427387904 by have := HCC.out _ (List.getElem_mem hlt); omega)
      generalize L[i] = x at *
      have HRC := Aside.mk (And.intro a8 a9)
      clear hlt hi a8 a9
      have HT := cell7 (blk_drew (heap_alloc_new wr (.cells #[.int .i64 x.e.kind, .int .i64 x.e.thread, .int .i64 x.e.op, .int .i64 x.e.n, .int .u64 x.e.pos, .int .i64 x.e.code, .slice B x.e.data.length c] 44)))
      obtain ⟨T0, T1, T2, T3, T4, T5, T6⟩ := HT
      have HB5 := Aside.mk (below_drew1 (below_alloc HW.out (.cells #[.int .i64 x.e.kind, .int .i64 x.e.thread, .int .i64 x.e.op, .int .i64 x.e.n, .int .u64 x.e.pos, .int .i64 x.e.code, .slice B x.e.data.length c] 44)))
      have HB6 := Aside.mk (below_drew1 (below_alloc (Below.refl wr.heap.size wr) (.cells #[.int .i64 x.e.kind, .int .i64 x.e.thread, .int .i64 x.e.op, .int .i64 x.e.n, .int .u64 x.e.pos, .int .i64 x.e.code, .slice B x.e.data.length c] 44)))
      have b0 := fun o => pw_cell_below (below_alloc (Below.refl wr.heap.size wr) o) a0
      have b1 := fun o => pw_cell_below (below_alloc (Below.refl wr.heap.size wr) o) a1
      have b2 := fun o => pw_cell_below (below_alloc (Below.refl wr.heap.size wr) o) a2
      have b3 := fun o => pw_cell_below (below_alloc (Below.refl wr.heap.size wr) o) a3
      have b4 := fun o => pw_cell_below (below_alloc (Below.refl wr.heap.size wr) o) a4
      have b5 := fun o => pw_cell_below (below_alloc (Below.refl wr.heap.size wr) o) a5
      have b6 := fun o => pw_cell_below (below_alloc (Below.refl wr.heap.size wr) o) a6
      have b7 := fun o => pw_cell_below (below_alloc (Below.refl wr.heap.size wr) o) a7
      have f6 := fun o => pw_cell_below (below_alloc (Below.refl wr.heap.size wr) o) e6
      by_cases hk : x.e.kind = 5
      · have k1 : (x.e.kind == 5) = true := by rw [hk]; rfl
        by_cases h0 : 0 ≤ n - x.c
        · obtain ⟨m, hm⟩ : ∃ m : Nat, n - x.c = (m : Int) := ⟨(n - x.c).toNat, by omega⟩
          replace ew := ew.trans hm
          have k2 : decide ((0 : Int) ≤ (m : Int)) = true := decide_eq_true (by omega)
          have k22 : (0 : Int) ≤ (m : Int) := by omega
          by_cases h1 : (m : Int) < x.e.n
          · have k3 : decide ((m : Int) < x.e.n) = true := decide_eq_true h1
            have hlen := HDX.out hk
            have hml : m < x.e.data.length := by omega
            have HV := Aside.mk (HF.out (x.e.data.getD m 0) (by unfold atX; rw [if_pos ⟨hk, h0, by omega⟩, hm]; rfl))
            obtain ⟨bd, rfl, hx⟩ := num_at HRC.out.2 m hml
            have hy := pw_cell_below HB6.out hx
            have l1 : decide ((m : Int) < (x.e.data.length : Int)) = true := decide_eq_true (by omega)
            have l2 : decide (m < x.e.data.length) = true := decide_eq_true hml
            have l3 : (m : Int) < (x.e.data.length : Int) := by omega
            rw [List.getD_eq_getElem?_getD, List.getElem?_eq_getElem hml] at HV
            generalize x.e.data[m] = dv at *
            clear hk h0 h1 hlen hml hm
            go_wp2_with fail
            go_region
            all_goals
              rw [ew]
              go_wp2
              go_ret2
              rw [HV.out]
              exact ⟨rfl, HB.out.trans (HB5.out.mono HB.out.size)⟩
          · have k3 : decide ((m : Int) < x.e.n) = false := decide_eq_false h1
            have HNN := Aside.mk (HNX.out.trans (by unfold atX; rw [if_neg (by rw [hm]; exact fun h => h1 h.2.2)]))
            clear hk h0 h1 hm
            go_wp2_with fail
            go_region
            all_goals
              rw [ew]
              go_wp2_with fail
              go_roundw
              case rel => exact ⟨i + 1, HLT.out, by first | rfl | simp, HNN, HB5⟩
              case measure =>
                simp only [intOf, tn1, Int.toNat_natCast]
                exact meas1 HLT.out
        · have HNN := Aside.mk (HNX.out.trans (by unfold atX; rw [if_neg (fun h => h0 h.2.1)]))
          obtain ⟨dd, hdd⟩ : ∃ dd : Int, n - x.c = dd := ⟨_, rfl⟩
          replace ew := ew.trans hdd
          rw [hdd] at h0
          have k2 : decide ((0 : Int) ≤ dd) = false := decide_eq_false h0
          clear hk h0 hdd
          go_wp2_with fail
          go_region
          all_goals
            rw [ew]
            go_wp2_with fail
            go_roundw
            case rel => exact ⟨i + 1, HLT.out, by first | rfl | simp, HNN, HB5⟩
            case measure =>
              simp only [intOf, tn1, Int.toNat_natCast]
              exact meas1 HLT.out
      · have k1 : (x.e.kind == 5) = false := beq_eq_false_iff_ne.2 hk
        have HNN := Aside.mk (HNX.out.trans (by unfold atX; rw [if_neg (fun h => hk h.1)]))
        clear hk
        go_wp2_with fail
        go_region
        all_goals
          go_wp2_with fail
          go_roundw
          case rel => exact ⟨i + 1, HLT.out, by first | rfl | simp, HNN, HB5⟩
          case measure =>
            simp only [intOf, tn1, Int.toNat_natCast]
            exact meas1 HLT.out
    · obtain rfl : i = L.length := by omega
      rw [List.take_length] at HNO
      have t1 : decide ((L.length : Int) < (L.length : Int)) = false := decide_eq_false (by omega)
      have t2 : decide (L.length < L.length) = false := decide_eq_false (by omega)
      clear hi hlt
      go_wp2
      go_ret2
      rw [HNO.out]
      exact ⟨rfl, HB.out.trans (HW.out.mono HB.out.size)⟩
end Go.Proofs.YtnnfcdffnckoiaaDoor.Mo
/- The document's model: its prefix, gates, and the least of some. -/
set_option linter.unusedVariables false
set_option linter.unusedSimpArgs false
set_option maxRecDepth 100000
namespace Go.Proofs.YtnnfcdffnckoiaaDoor.Mo
open Go.RowKit Go.Proofs.YtnnfcdffnckoiaaDoorW.PrintWords Go.Proofs.YtnnfcdffnckoiaaDoorW.PrintLast Go.Proofs.YtnnfcdffnckoiaaDoorW.PrintMore
attribute [local go_sem] max2_int min2_int max_two min_two
/-- A document's model, as it is handed over. -/
structure Mp where
  vr : Int
  wd : Int
  cp : Int
  pr : Int
  sa : Int
  U : Option Addr
  un : Nat
  uc : Nat
  A : Option Addr
  C : Nat
  L : List On
structure MOk (w : World) (m : Mp) : Prop where
  c : m.L.length ≤ m.C
  o : OnesC w m.A m.L
  n : m.L.length ≤ 100000
  t : SmallT m.L
  k : ∀ x ∈ m.L, 0 ≤ x.c ∧ x.c ≤ 500000
  d : ∀ x ∈ m.L, x.e.kind = 5 → (x.e.data.length : Int) = x.e.n
  p : 0 ≤ m.pr ∧ m.pr ≤ 100
theorem MOk.below {w w' : World} {m : Mp} (h : MOk w m) (b : Below w.heap.size w w') : MOk w' m := ⟨h.c, h.o.below b, h.n, h.t, h.k, h.d, h.p⟩
theorem taken_m (w : World) (m : Mp) (h : MOk w m) : Calls Tryd.prog 72 #[.agg #[.int .i64 m.vr, .int .i64 m.wd, .int .i64 m.cp, .int .i64 m.pr, .int .u64 m.sa, .slice m.U m.un m.uc, .slice m.A m.L.length m.C]] w fun e w' => e = .returned (.int .i64 (taken m.L)) ∧ Below w.heap.size w w' := rtaken_ w m.vr m.wd m.cp m.pr m.sa m.U m.un m.uc m.A m.C m.L h.c h.o h.n h.t
theorem last_m (w : World) (m : Mp) (h : MOk w m) (k kind : Int) (hk : 0 ≤ k ∧ k ≤ 100) : Calls Tryd.prog 115 #[.agg #[.int .i64 m.vr, .int .i64 m.wd, .int .i64 m.cp, .int .i64 m.pr, .int .u64 m.sa, .slice m.U m.un m.uc, .slice m.A m.L.length m.C], .int .i64 k, .int .i64 kind] w fun e w' => e = .returned (.int .i64 (lastOf m.pr m.L k kind)) ∧ Below w.heap.size w w' := rlast_ w m.vr m.wd m.cp m.pr m.sa m.U m.un m.uc m.A m.C m.L h.c h.o h.n k kind (by have := h.p; omega)
theorem data_m (w : World) (m : Mp) (h : MOk w m) (n : Int) (hn : -500000 ≤ n ∧ n ≤ 500000) : Calls Tryd.prog 79 #[.agg #[.int .i64 m.vr, .int .i64 m.wd, .int .i64 m.cp, .int .i64 m.pr, .int .u64 m.sa, .slice m.U m.un m.uc, .slice m.A m.L.length m.C], .int .i64 n] w fun e w' => e = .returned (.tuple #[.int .i64 ((dataAt m.L n).getD 0), .bool (dataAt m.L n).isSome]) ∧ Below w.heap.size w w' := rdata_ w m.vr m.wd m.cp m.pr m.sa m.U m.un m.uc m.A m.C m.L h.c h.o h.n n h.d (fun x hx => by have := h.k x hx; omega)
set_option maxHeartbeats 4000000 in
theorem prefix_m (w : World) (m : Mp) (h : MOk w m) (p : Nat) (h1 : (p : Int) ≤ taken m.L) (h2 : dataAt m.L p = none) (h3 : ∀ i : Nat, i < p → (dataAt m.L i).isSome = true) (h4 : p ≤ 500000) :
    Calls Tryd.prog 73 #[.agg #[.int .i64 m.vr, .int .i64 m.wd, .int .i64 m.cp, .int .i64 m.pr, .int .u64 m.sa, .slice m.U m.un m.uc, .slice m.A m.L.length m.C]] w fun e w' => e = .returned (.int .i64 p) ∧ Below w.heap.size w w' := by
  have HM := Aside.mk (h.below (below_alloc (Below.refl w.heap.size w) (.cells #[.int .i64 m.vr, .int .i64 m.wd, .int .i64 m.cp, .int .i64 m.pr, .int .u64 m.sa, .slice m.U m.un m.uc, .slice m.A m.L.length m.C] 68)))
  have HB := Aside.mk (below_alloc (Below.refl w.heap.size w) (.cells #[.int .i64 m.vr, .int .i64 m.wd, .int .i64 m.cp, .int .i64 m.pr, .int .u64 m.sa, .slice m.U m.un m.uc, .slice m.A m.L.length m.C] 68))
  have HX := Aside.mk (heap_alloc_new w (.cells #[.int .i64 m.vr, .int .i64 m.wd, .int .i64 m.cp, .int .i64 m.pr, .int .u64 m.sa, .slice m.U m.un m.uc, .slice m.A m.L.length m.C] 68))
  have H1 := Aside.mk h1
  have H2 := Aside.mk h2
  have H3 := Aside.mk h3
  have H4 := Aside.mk h4
  clear h h1 h2 h3 h4
  go_enter Tryd.func73, Tryd.ntmps73
  go_upto_region 1 with (fail)
  generalize w.alloc (.cells #[.int .i64 m.vr, .int .i64 m.wd, .int .i64 m.cp, .int .i64 m.pr, .int .u64 m.sa, .slice m.U m.un m.uc, .slice m.A m.L.length m.C] 68) = w2 at *
  go_wp2_with fail
  go_loopw [3] (fun x wr => ∃ i : Nat, i ≤ p ∧ x = .int .i64 i ∧ Aside (Below w2.heap.size w2 wr)) (fun x _ => p + 1 - (intOf x).toNat)
  case atStart => exact ⟨0, Nat.zero_le _, rfl, ⟨Below.refl _ _⟩⟩
  case round =>
    obtain ⟨i, hi, rfl, HW⟩ := hrel
    obtain ⟨e0, e1, e2, e3, e4, e5, e6⟩ := cell7 (blk_below HX.out HW.out)
    have HI := Aside.mk hi
    have t1 : decide ((i : Int) ≤ taken m.L) = true := decide_eq_true (by have := H1.out; omega)
    go_wp2_with fail
    refine (taken_m _ m (HM.out.below HW.out)).mono ?_
    rintro e w3 ⟨rfl, hb⟩
    have HW3 := Aside.mk (HW.out.trans (hb.mono HW.out.size))
    clear hb e0 e1 e2 e3 e4 e5 e6
    obtain ⟨e0, e1, e2, e3, e4, e5, e6⟩ := cell7 (blk_below HX.out HW3.out)
    go_wp2_with fail
    refine (data_m _ m (HM.out.below HW3.out) i (by have := H4.out; omega)).mono ?_
    rintro e w4 ⟨rfl, hb⟩
    have HW4 := Aside.mk (HW3.out.trans (hb.mono HW3.out.size))
    clear hb e0 e1 e2 e3 e4 e5 e6
    by_cases hlt : i < p
    · have HLT := Aside.mk hlt
      have hs := H3.out i hlt
      rw [hs]
      have ei := i1 (show i < 4611686018427387904 by have := H4.out; omega)
      clear hlt hi t1 hs
      go_wp2_with fail
      go_roundw
      case rel => exact ⟨i + 1, HLT.out, by first | rfl | simp, HW4⟩
      case measure =>
        simp only [intOf, tn1, Int.toNat_natCast]
        have := HLT.out
        omega
    · obtain rfl : i = p := by omega
      rw [H2.out]
      clear hlt hi t1
      go_wp2
      go_ret
      exact ⟨rfl, HB.out.trans (HW4.out.mono HB.out.size)⟩
set_option maxHeartbeats 4000000 in
theorem gate_m (w : World) (m : Mp) (h : MOk w m) (k : Int) (hk : 0 ≤ k ∧ k ≤ 100) :
    Calls Tryd.prog 76 #[.agg #[.int .i64 m.vr, .int .i64 m.wd, .int .i64 m.cp, .int .i64 m.pr, .int .u64 m.sa, .slice m.U m.un m.uc, .slice m.A m.L.length m.C], .int .i64 k] w fun e w' => e = .returned (.int .i64 (lastOf m.pr m.L k 7)) ∧ Below w.heap.size w w' := by
  have HM := Aside.mk (h.below (below_alloc (Below.refl w.heap.size w) (.cells #[.int .i64 m.vr, .int .i64 m.wd, .int .i64 m.cp, .int .i64 m.pr, .int .u64 m.sa, .slice m.U m.un m.uc, .slice m.A m.L.length m.C] 68)))
  have HB := Aside.mk (below_alloc (Below.refl w.heap.size w) (.cells #[.int .i64 m.vr, .int .i64 m.wd, .int .i64 m.cp, .int .i64 m.pr, .int .u64 m.sa, .slice m.U m.un m.uc, .slice m.A m.L.length m.C] 68))
  have HX := Aside.mk (heap_alloc_new w (.cells #[.int .i64 m.vr, .int .i64 m.wd, .int .i64 m.cp, .int .i64 m.pr, .int .u64 m.sa, .slice m.U m.un m.uc, .slice m.A m.L.length m.C] 68))
  have HK := Aside.mk hk
  clear h hk
  go_enter Tryd.func76, Tryd.ntmps76
  go_upto_region 1 with (fail)
  generalize w.alloc (.cells #[.int .i64 m.vr, .int .i64 m.wd, .int .i64 m.cp, .int .i64 m.pr, .int .u64 m.sa, .slice m.U m.un m.uc, .slice m.A m.L.length m.C] 68) = w2 at *
  obtain ⟨e0, e1, e2, e3, e4, e5, e6⟩ := cell7 HX.out
  go_wp2_with fail
  refine (last_m _ m HM.out k 7 HK.out).mono ?_
  rintro e w3 ⟨rfl, hb⟩
  have HB3 := Aside.mk (HB.out.trans (hb.mono HB.out.size))
  clear hb e0 e1 e2 e3 e4 e5 e6
  go_wp2
  go_ret
  exact ⟨rfl, HB3.out⟩
set_option maxHeartbeats 4000000 in
theorem saw_m (w : World) (m : Mp) (h : MOk w m) (k : Int) (hk : 0 ≤ k ∧ k ≤ 100) :
    Calls Tryd.prog 77 #[.agg #[.int .i64 m.vr, .int .i64 m.wd, .int .i64 m.cp, .int .i64 m.pr, .int .u64 m.sa, .slice m.U m.un m.uc, .slice m.A m.L.length m.C], .int .i64 k] w fun e w' => e = .returned (.int .i64 (lastOf m.pr m.L k 6)) ∧ Below w.heap.size w w' := by
  have HM := Aside.mk (h.below (below_alloc (Below.refl w.heap.size w) (.cells #[.int .i64 m.vr, .int .i64 m.wd, .int .i64 m.cp, .int .i64 m.pr, .int .u64 m.sa, .slice m.U m.un m.uc, .slice m.A m.L.length m.C] 68)))
  have HB := Aside.mk (below_alloc (Below.refl w.heap.size w) (.cells #[.int .i64 m.vr, .int .i64 m.wd, .int .i64 m.cp, .int .i64 m.pr, .int .u64 m.sa, .slice m.U m.un m.uc, .slice m.A m.L.length m.C] 68))
  have HX := Aside.mk (heap_alloc_new w (.cells #[.int .i64 m.vr, .int .i64 m.wd, .int .i64 m.cp, .int .i64 m.pr, .int .u64 m.sa, .slice m.U m.un m.uc, .slice m.A m.L.length m.C] 68))
  have HK := Aside.mk hk
  clear h hk
  go_enter Tryd.func77, Tryd.ntmps77
  go_upto_region 1 with (fail)
  generalize w.alloc (.cells #[.int .i64 m.vr, .int .i64 m.wd, .int .i64 m.cp, .int .i64 m.pr, .int .u64 m.sa, .slice m.U m.un m.uc, .slice m.A m.L.length m.C] 68) = w2 at *
  obtain ⟨e0, e1, e2, e3, e4, e5, e6⟩ := cell7 HX.out
  go_wp2_with fail
  refine (last_m _ m HM.out k 6 HK.out).mono ?_
  rintro e w3 ⟨rfl, hb⟩
  have HB3 := Aside.mk (HB.out.trans (hb.mono HB.out.size))
  clear hb e0 e1 e2 e3 e4 e5 e6
  go_wp2
  go_ret
  exact ⟨rfl, HB3.out⟩
/-- The least of some gates. -/
def lowG (G : Int → Int) (l : List Int) : Int := l.tail.foldl (fun n c => if G c < n then G c else n) (G (l.headD 0))
def lowP (G : Int → Int) (l : List Int) (i : Nat) : Int := (l.tail.take i).foldl (fun n c => if G c < n then G c else n) (G (l.headD 0))
theorem lowP_succ (G : Int → Int) (l : List Int) (i : Nat) (h : i + 1 < l.length) : lowP G l (i + 1) = if G l[i + 1] < lowP G l i then G l[i + 1] else lowP G l i := by
  obtain ⟨x, r, rfl⟩ : ∃ x r, l = x :: r := by
    cases l with
    | nil => simp at h
    | cons x r => exact ⟨x, r, rfl⟩
  unfold lowP
  simp only [List.tail_cons, List.length_cons, List.getElem_cons_succ] at *
  rw [List.take_succ_eq_append_getElem (by have h' := h; simp only [List.length_cons] at h'; omega), List.foldl_append]
  rfl
theorem lowP_all (G : Int → Int) (l : List Int) : lowP G l (l.length - 1) = lowG G l := by
  unfold lowP lowG
  rw [List.take_of_length_le (by simp)]
/-- What is held while a list's gates are read. -/
structure LB (w0 w : World) (m : Mp) (B : Option Addr) (l : List Int) : Prop where
  b : Below w0.heap.size w0 w
  m : MOk w m
  l : (Kd.int .i64).C w B l.length l
theorem LB.step {w0 w w' : World} {m : Mp} {B : Option Addr} {l : List Int} (h : LB w0 w m B l) (b : Below w.heap.size w w') : LB w0 w' m B l := ⟨h.b.trans (b.mono h.b.size), h.m.below b, Kd.C_below h.l b⟩
theorem heldL {w0 w w' : World} {Q : Nat} {m : Mp} {B : Option Addr} {l : List Int} {p : Addr} {v : Value} (b : Below w.heap.size w w') (h : (fun w' : World => w'.cell? ⟨Q, 0, none⟩ = some (.int .i64 m.vr) ∧ w'.cell? ⟨Q, 1, none⟩ = some (.int .i64 m.wd) ∧ w'.cell? ⟨Q, 2, none⟩ = some (.int .i64 m.cp) ∧ w'.cell? ⟨Q, 3, none⟩ = some (.int .i64 m.pr) ∧ w'.cell? ⟨Q, 4, none⟩ = some (.int .u64 m.sa) ∧ w'.cell? ⟨Q, 5, none⟩ = some (.slice m.U m.un m.uc) ∧ w'.cell? ⟨Q, 6, none⟩ = some (.slice m.A m.L.length m.C) ∧ w'.cell? p = some v ∧ LB w0 w' m B l) w) : (fun w' : World => w'.cell? ⟨Q, 0, none⟩ = some (.int .i64 m.vr) ∧ w'.cell? ⟨Q, 1, none⟩ = some (.int .i64 m.wd) ∧ w'.cell? ⟨Q, 2, none⟩ = some (.int .i64 m.cp) ∧ w'.cell? ⟨Q, 3, none⟩ = some (.int .i64 m.pr) ∧ w'.cell? ⟨Q, 4, none⟩ = some (.int .u64 m.sa) ∧ w'.cell? ⟨Q, 5, none⟩ = some (.slice m.U m.un m.uc) ∧ w'.cell? ⟨Q, 6, none⟩ = some (.slice m.A m.L.length m.C) ∧ w'.cell? p = some v ∧ LB w0 w' m B l) w' := by
  obtain ⟨h0, h1, h2, h3, h4, h5, h6, h7, h8⟩ := h
  have go : ∀ {p : Addr} {v : Value}, w.cell? p = some v → w'.cell? p = some v := fun hp => (b.cell (World.block_lt_of_cell? _ _ hp)).trans hp
  exact ⟨go h0, go h1, go h2, go h3, go h4, go h5, go h6, go h7, h8.step b⟩
theorem lbOf {w0 w' : World} {Q : Nat} {m : Mp} {B : Option Addr} {l : List Int} {p : Addr} {v : Value} (h : w'.cell? ⟨Q, 0, none⟩ = some (.int .i64 m.vr) ∧ w'.cell? ⟨Q, 1, none⟩ = some (.int .i64 m.wd) ∧ w'.cell? ⟨Q, 2, none⟩ = some (.int .i64 m.cp) ∧ w'.cell? ⟨Q, 3, none⟩ = some (.int .i64 m.pr) ∧ w'.cell? ⟨Q, 4, none⟩ = some (.int .u64 m.sa) ∧ w'.cell? ⟨Q, 5, none⟩ = some (.slice m.U m.un m.uc) ∧ w'.cell? ⟨Q, 6, none⟩ = some (.slice m.A m.L.length m.C) ∧ w'.cell? p = some v ∧ LB w0 w' m B l) : MOk w' m := h.2.2.2.2.2.2.2.2.m
def Box7 (w' : World) (Q : Nat) (m : Mp) : Prop := w'.cell? ⟨Q, 0, none⟩ = some (.int .i64 m.vr) ∧ w'.cell? ⟨Q, 1, none⟩ = some (.int .i64 m.wd) ∧ w'.cell? ⟨Q, 2, none⟩ = some (.int .i64 m.cp) ∧ w'.cell? ⟨Q, 3, none⟩ = some (.int .i64 m.pr) ∧ w'.cell? ⟨Q, 4, none⟩ = some (.int .u64 m.sa) ∧ w'.cell? ⟨Q, 5, none⟩ = some (.slice m.U m.un m.uc) ∧ w'.cell? ⟨Q, 6, none⟩ = some (.slice m.A m.L.length m.C)
theorem boxOf {w0 w' : World} {Q : Nat} {m : Mp} {B : Option Addr} {l : List Int} {p : Addr} {v : Value} (h : w'.cell? ⟨Q, 0, none⟩ = some (.int .i64 m.vr) ∧ w'.cell? ⟨Q, 1, none⟩ = some (.int .i64 m.wd) ∧ w'.cell? ⟨Q, 2, none⟩ = some (.int .i64 m.cp) ∧ w'.cell? ⟨Q, 3, none⟩ = some (.int .i64 m.pr) ∧ w'.cell? ⟨Q, 4, none⟩ = some (.int .u64 m.sa) ∧ w'.cell? ⟨Q, 5, none⟩ = some (.slice m.U m.un m.uc) ∧ w'.cell? ⟨Q, 6, none⟩ = some (.slice m.A m.L.length m.C) ∧ w'.cell? p = some v ∧ LB w0 w' m B l) : Box7 w' Q m := ⟨h.1, h.2.1, h.2.2.1, h.2.2.2.1, h.2.2.2.2.1, h.2.2.2.2.2.1, h.2.2.2.2.2.2.1⟩
theorem lbAll {w0 w' : World} {Q : Nat} {m : Mp} {B : Option Addr} {l : List Int} {p : Addr} {v : Value} (h : w'.cell? ⟨Q, 0, none⟩ = some (.int .i64 m.vr) ∧ w'.cell? ⟨Q, 1, none⟩ = some (.int .i64 m.wd) ∧ w'.cell? ⟨Q, 2, none⟩ = some (.int .i64 m.cp) ∧ w'.cell? ⟨Q, 3, none⟩ = some (.int .i64 m.pr) ∧ w'.cell? ⟨Q, 4, none⟩ = some (.int .u64 m.sa) ∧ w'.cell? ⟨Q, 5, none⟩ = some (.slice m.U m.un m.uc) ∧ w'.cell? ⟨Q, 6, none⟩ = some (.slice m.A m.L.length m.C) ∧ w'.cell? p = some v ∧ LB w0 w' m B l) : LB w0 w' m B l := h.2.2.2.2.2.2.2.2
set_option maxHeartbeats 8000000 in
theorem lowest_m (w : World) (m : Mp) (h : MOk w m) (B : Option Addr) (D : Nat) (l : List Int) (hl : (Kd.int .i64).C w B l.length l) (hD : l.length ≤ D) (hne : 0 < l.length) (hn : l.length ≤ 1000) (hr : ∀ c ∈ l, 0 ≤ c ∧ c ≤ 100) :
    Calls Tryd.prog 114 #[.agg #[.int .i64 m.vr, .int .i64 m.wd, .int .i64 m.cp, .int .i64 m.pr, .int .u64 m.sa, .slice m.U m.un m.uc, .slice m.A m.L.length m.C], .slice B l.length D] w fun e w' => e = .returned (.int .i64 (lowG (fun c => lastOf m.pr m.L c 7) l)) ∧ Below w.heap.size w w' := by
  have HL := Aside.mk (show LB w (w.alloc (.cells #[.int .i64 m.vr, .int .i64 m.wd, .int .i64 m.cp, .int .i64 m.pr, .int .u64 m.sa, .slice m.U m.un m.uc, .slice m.A m.L.length m.C] 68)) m B l from ⟨below_alloc (Below.refl w.heap.size w) (.cells #[.int .i64 m.vr, .int .i64 m.wd, .int .i64 m.cp, .int .i64 m.pr, .int .u64 m.sa, .slice m.U m.un m.uc, .slice m.A m.L.length m.C] 68), h.below (below_alloc (Below.refl w.heap.size w) (.cells #[.int .i64 m.vr, .int .i64 m.wd, .int .i64 m.cp, .int .i64 m.pr, .int .u64 m.sa, .slice m.U m.un m.uc, .slice m.A m.L.length m.C] 68)), Kd.C_below hl (below_alloc (Below.refl w.heap.size w) (.cells #[.int .i64 m.vr, .int .i64 m.wd, .int .i64 m.cp, .int .i64 m.pr, .int .u64 m.sa, .slice m.U m.un m.uc, .slice m.A m.L.length m.C] 68))⟩)
  have HX := Aside.mk (heap_alloc_new w (.cells #[.int .i64 m.vr, .int .i64 m.wd, .int .i64 m.cp, .int .i64 m.pr, .int .u64 m.sa, .slice m.U m.un m.uc, .slice m.A m.L.length m.C] 68))
  have HNE := Aside.mk hne
  have HN := Aside.mk hn
  have HR := Aside.mk hr
  clear h hl hn hr
  go_enter Tryd.func114, Tryd.ntmps114
  go_upto_region 1 with (fail)
  generalize w.alloc (.cells #[.int .i64 m.vr, .int .i64 m.wd, .int .i64 m.cp, .int .i64 m.pr, .int .u64 m.sa, .slice m.U m.un m.uc, .slice m.A m.L.length m.C] 68) = w2 at *
  generalize w.heap.size = Q at HX ⊢
  obtain ⟨bd, rfl, hx⟩ := num_at HL.out.l 0 hne
  rw [show bd.add 0 = bd by simp [Addr.add]] at hx
  obtain ⟨e0, e1, e2, e3, e4, e5, e6⟩ := cell7 HX.out
  have hHD := heldL (below_drew1 (Below.refl _ _)) (And.intro e0 (And.intro e1 (And.intro e2 (And.intro e3 (And.intro e4 (And.intro e5 (And.intro e6 (And.intro hx HL.out))))))))
  have u1 : decide ((0 : Int) < (l.length : Int)) = true := decide_eq_true (by omega)
  have u2 : decide (0 < l.length) = true := decide_eq_true hne
  have u3 : (0 : Int) < (l.length : Int) := by omega
  have HC0 := Aside.mk (HR.out _ (List.getElem_mem hne))
  have HL0 := Aside.mk (show lowP (fun c => lastOf m.pr m.L c 7) l 0 = lastOf m.pr m.L l[0] 7 by
    cases l with
    | nil => simp at hne
    | cons x r => rfl)
  generalize l[0] = c0 at *
  have u4 := hne
  clear hne
  go_wp2_with fail
  go_region_held3 (fun w' => w'.cell? ⟨Q, 0, none⟩ = some (.int .i64 m.vr) ∧ w'.cell? ⟨Q, 1, none⟩ = some (.int .i64 m.wd) ∧ w'.cell? ⟨Q, 2, none⟩ = some (.int .i64 m.cp) ∧ w'.cell? ⟨Q, 3, none⟩ = some (.int .i64 m.pr) ∧ w'.cell? ⟨Q, 4, none⟩ = some (.int .u64 m.sa) ∧ w'.cell? ⟨Q, 5, none⟩ = some (.slice m.U m.un m.uc) ∧ w'.cell? ⟨Q, 6, none⟩ = some (.slice m.A m.L.length m.C) ∧ w'.cell? bd = some (.int .i64 c0) ∧ LB w w' m (some bd) l) (first | exact hHD | exact heldL (by assumption) (by assumption))
    (first | (go_at_call 76; refine (gate_m _ m (lbOf (by assumption)) c0 HC0.out).mono ?_; rintro e w4 ⟨rfl, b⟩))
  replace HL := Aside.mk (lbAll (by assumption))
  have HY := Aside.mk (boxOf (by assumption))
  rename_i w4 _ hhh
  rw [← HL0.out]
  clear hhh hHD e0 e1 e2 e3 e4 e5 e6 hx HX
  go_wp2_with fail
  go_loopw [5, 6] (fun n x wr => ∃ j : Nat, j + 1 ≤ l.length ∧ n = .int .i64 (lowP (fun c => lastOf m.pr m.L c 7) l j) ∧ x = .int .i64 ((j + 1 : Nat) : Int) ∧ Aside (LB w wr m (some bd) l) ∧ Aside (Box7 wr Q m)) (fun _ x _ => l.length - (intOf x).toNat)
  case atStart => exact ⟨0, HNE.out, rfl, rfl, HL, HY⟩
  case round =>
    clear HL HY
    obtain ⟨j, hj, rfl, rfl, HL, HY⟩ := hrel
    by_cases hlt : j + 1 < l.length
    · have HLT := Aside.mk hlt
      obtain ⟨bd2, ebd, hx⟩ := num_at HL.out.l (j + 1) hlt
      injection ebd with ebd
      subst ebd
      have HC1 := Aside.mk (HR.out _ (List.getElem_mem hlt))
      have HLS := Aside.mk (lowP_succ (fun c => lastOf m.pr m.L c 7) l j hlt)
      obtain ⟨e0, e1, e2, e3, e4, e5, e6⟩ := HY.out
      have hHD := heldL (below_drew1 (Below.refl _ _)) (And.intro e0 (And.intro e1 (And.intro e2 (And.intro e3 (And.intro e4 (And.intro e5 (And.intro e6 (And.intro hx HL.out))))))))
      generalize l[j + 1] = c1 at *
      generalize lowP (fun c => lastOf m.pr m.L c 7) l j = tk at *
      obtain ⟨jj, hjj⟩ : ∃ jj, j + 1 = jj := ⟨_, rfl⟩
      rw [hjj] at hlt hj HLT HLS hx hHD ⊢
      have v1 : decide ((jj : Int) < (l.length : Int)) = true := decide_eq_true (by omega)
      have v2 : decide (jj < l.length) = true := decide_eq_true hlt
      have v3 : (jj : Int) < (l.length : Int) := by omega
      have ei := i1 (show jj < 4611686018427387904 by have := HN.out; omega)
      have HJJ := Aside.mk hjj
      clear hlt hj hjj
      by_cases hg : lastOf m.pr m.L c1 7 < tk
      · have g1 : decide (lastOf m.pr m.L c1 7 < tk) = true := decide_eq_true hg
        have g2 := hg
        simp only [if_pos hg] at HLS
        clear hg
        go_wp2_with fail
        go_region_held3 (fun w' => w'.cell? ⟨Q, 0, none⟩ = some (.int .i64 m.vr) ∧ w'.cell? ⟨Q, 1, none⟩ = some (.int .i64 m.wd) ∧ w'.cell? ⟨Q, 2, none⟩ = some (.int .i64 m.cp) ∧ w'.cell? ⟨Q, 3, none⟩ = some (.int .i64 m.pr) ∧ w'.cell? ⟨Q, 4, none⟩ = some (.int .u64 m.sa) ∧ w'.cell? ⟨Q, 5, none⟩ = some (.slice m.U m.un m.uc) ∧ w'.cell? ⟨Q, 6, none⟩ = some (.slice m.A m.L.length m.C) ∧ w'.cell? (bd.add jj) = some (.int .i64 c1) ∧ LB w w' m (some bd) l) (first | exact hHD | exact heldL (by assumption) (by assumption))
          (first | (go_at_call 76; refine (gate_m _ m (lbOf (by assumption)) c1 HC1.out).mono ?_; rintro e w4 ⟨rfl, b⟩))
        have hHE := heldL (below_drew1 (Below.refl _ _)) (by assumption)
        clear hHD
        go_wp2_with fail
        go_region_held3 (fun w' => w'.cell? ⟨Q, 0, none⟩ = some (.int .i64 m.vr) ∧ w'.cell? ⟨Q, 1, none⟩ = some (.int .i64 m.wd) ∧ w'.cell? ⟨Q, 2, none⟩ = some (.int .i64 m.cp) ∧ w'.cell? ⟨Q, 3, none⟩ = some (.int .i64 m.pr) ∧ w'.cell? ⟨Q, 4, none⟩ = some (.int .u64 m.sa) ∧ w'.cell? ⟨Q, 5, none⟩ = some (.slice m.U m.un m.uc) ∧ w'.cell? ⟨Q, 6, none⟩ = some (.slice m.A m.L.length m.C) ∧ w'.cell? (bd.add jj) = some (.int .i64 c1) ∧ LB w w' m (some bd) l) (first | exact hHE | exact heldL (by assumption) (by assumption))
          (first | (go_at_call 76; refine (gate_m _ m (lbOf (by assumption)) c1 HC1.out).mono ?_; rintro e w4 ⟨rfl, b⟩))
        replace HL := Aside.mk (lbAll (by assumption))
        have HZ := Aside.mk (boxOf (by assumption))
        go_wp2_with fail
        go_roundw
        case rel => exact ⟨jj, HLT.out, by rw [HLS.out], by first | rfl | simp, HL, HZ⟩
        case measure =>
          simp only [intOf, tn1, Int.toNat_natCast]
          exact meas1 HLT.out
      · have g1 : decide (lastOf m.pr m.L c1 7 < tk) = false := decide_eq_false hg
        have g2 : tk ≤ lastOf m.pr m.L c1 7 := by omega
        simp only [if_neg hg] at HLS
        clear hg
        go_wp2_with fail
        go_region_held3 (fun w' => w'.cell? ⟨Q, 0, none⟩ = some (.int .i64 m.vr) ∧ w'.cell? ⟨Q, 1, none⟩ = some (.int .i64 m.wd) ∧ w'.cell? ⟨Q, 2, none⟩ = some (.int .i64 m.cp) ∧ w'.cell? ⟨Q, 3, none⟩ = some (.int .i64 m.pr) ∧ w'.cell? ⟨Q, 4, none⟩ = some (.int .u64 m.sa) ∧ w'.cell? ⟨Q, 5, none⟩ = some (.slice m.U m.un m.uc) ∧ w'.cell? ⟨Q, 6, none⟩ = some (.slice m.A m.L.length m.C) ∧ w'.cell? (bd.add jj) = some (.int .i64 c1) ∧ LB w w' m (some bd) l) (first | exact hHD | exact heldL (by assumption) (by assumption))
          (first | (go_at_call 76; refine (gate_m _ m (lbOf (by assumption)) c1 HC1.out).mono ?_; rintro e w4 ⟨rfl, b⟩))
        replace HL := Aside.mk (lbAll (by assumption))
        have HZ := Aside.mk (boxOf (by assumption))
        go_wp2_with fail
        go_roundw
        case rel => exact ⟨jj, HLT.out, by rw [HLS.out], by first | rfl | simp, HL, HZ⟩
        case measure =>
          simp only [intOf, tn1, Int.toNat_natCast]
          exact meas1 HLT.out
    · have hje : j + 1 = l.length := by omega
      rw [hje]
      have v1 : decide ((l.length : Int) < (l.length : Int)) = false := decide_eq_false (by omega)
      have v2 : decide (l.length < l.length) = false := decide_eq_false (by omega)
      have HJ := Aside.mk (show lowP (fun c => lastOf m.pr m.L c 7) l j = lowG (fun c => lastOf m.pr m.L c 7) l by rw [← lowP_all, show l.length - 1 = j by omega])
      clear hlt hj hje
      go_wp2
      go_ret
      rw [HJ.out]
      exact ⟨rfl, HL.out.b⟩
end Go.Proofs.YtnnfcdffnckoiaaDoor.Mo
/- The document's model: what a producer holds. -/
set_option linter.unusedVariables false
set_option linter.unusedSimpArgs false
set_option maxRecDepth 100000
namespace Go.Proofs.YtnnfcdffnckoiaaDoor.Mo
open Go.RowKit Go.Proofs.YtnnfcdffnckoiaaDoorW.PrintWords Go.Proofs.YtnnfcdffnckoiaaDoorW.PrintLast Go.Proofs.YtnnfcdffnckoiaaDoorW.PrintMore
theorem cell4 {w : World} {g : Nat} {c0 c1 c2 c3 : Value} {t : TypeId} (h : w.heap[g]? = some (.cells #[c0, c1, c2, c3] t (0, 0))) :
    w.cell? ⟨g, 0, none⟩ = some c0 ∧ w.cell? ⟨g, 1, none⟩ = some c1 ∧ w.cell? ⟨g, 2, none⟩ = some c2 ∧ w.cell? ⟨g, 3, none⟩ = some c3 := by
  refine ⟨?_, ?_, ?_, ?_⟩ <;> simp [World.cell?, h]
/-- What stands while one looks what a producer holds: the model's box, the result's, and the one that is filled. -/
structure HQ (w0 w : World) (m : Mp) (h : Hd) : Prop where
  below : Below w0.heap.size w0 w
  box : w.heap[w0.heap.size]? = some (.cells #[.int .i64 m.vr, .int .i64 m.wd, .int .i64 m.cp, .int .i64 m.pr, .int .u64 m.sa, .slice m.U m.un m.uc, .slice m.A m.L.length m.C] 68 (0, 0))
  res : w.heap[w0.heap.size + 1]? = some (.cells #[.int .i64 0, .int .i64 0, .int .i64 0, .bool false] 103 (0, 0))
  hb : w.heap[w0.heap.size + 1 + 1]? = some (.cells #[.int .i64 h.f, .int .i64 h.n, .int .i64 h.p, .bool h.g] 103 (0, 0))
theorem HQ.step {w0 w w' : World} {m : Mp} {h : Hd} (q : HQ w0 w m h) (b : Below w.heap.size w w') : HQ w0 w' m h := ⟨q.below.trans (b.mono q.below.size), blk_below q.box b, blk_below q.res b, blk_below q.hb b⟩
theorem HQ.put {w0 w : World} {m : Mp} {h h' : Hd} (q : HQ w0 w m h) (i : Nat) (u : Value) (e : (#[.int .i64 h.f, .int .i64 h.n, .int .i64 h.p, .bool h.g] : Array Value).setIfInBounds i u = #[.int .i64 h'.f, .int .i64 h'.n, .int .i64 h'.p, .bool h'.g]) : HQ w0 (w.setCell ⟨w0.heap.size + 1 + 1, i, none⟩ u) m h' :=
  ⟨q.below.setCell (by show w0.heap.size ≤ w0.heap.size + 1 + 1; omega) _, blk_far q.box (by show w0.heap.size ≠ w0.heap.size + 1 + 1; omega) _, blk_far q.res (by show w0.heap.size + 1 ≠ w0.heap.size + 1 + 1; omega) _, blk_put q.hb i u e⟩
theorem HQ.all {w0 w : World} {m : Mp} {h : Hd} (q : HQ w0 w m h) (h' : Hd) : HQ w0 ((((w.setCell ⟨w0.heap.size + 1 + 1, 0, none⟩ (.int .i64 h'.f)).setCell ⟨w0.heap.size + 1 + 1, 1, none⟩ (.int .i64 h'.n)).setCell ⟨w0.heap.size + 1 + 1, 2, none⟩ (.int .i64 h'.p)).setCell ⟨w0.heap.size + 1 + 1, 3, none⟩ (.bool h'.g)) m h' :=
  (((q.put (h' := ⟨h'.f, h.n, h.p, h.g⟩) 0 _ rfl).put (h' := ⟨h'.f, h'.n, h.p, h.g⟩) 1 _ rfl).put (h' := ⟨h'.f, h'.n, h'.p, h.g⟩) 2 _ rfl).put 3 _ rfl
theorem holds_take {L : List On} {t : Int} {i : Nat} (h : i < L.length) : holds (L.take (i + 1)) t = hstep t (holds (L.take i) t) L[i] := by
  rw [List.take_succ_eq_append_getElem h, holds_snoc]
/-- What a producer holds never goes round. -/
def SmallH (L : List On) (t : Int) : Prop := ∀ i (h : i < L.length), L[i].e.kind = 5 → L[i].e.thread = t → -4611686018427387904 ≤ (holds (L.take i) t).p + L[i].e.n ∧ (holds (L.take i) t).p + L[i].e.n ≤ 4611686018427387904
theorem three {w : World} (a b c : Obj) : (((w.alloc a).alloc b).alloc c).heap[w.heap.size]? = some a ∧ (((w.alloc a).alloc b).alloc c).heap[w.heap.size + 1]? = some b ∧ (((w.alloc a).alloc b).alloc c).heap[w.heap.size + 1 + 1]? = some c ∧ Below w.heap.size w (((w.alloc a).alloc b).alloc c) := by
  have h1 := heap_alloc_new w a
  have h2 := heap_alloc_new (w.alloc a) b
  have h3 := heap_alloc_new ((w.alloc a).alloc b) c
  rw [World.size_alloc] at h2
  rw [World.size_alloc, World.size_alloc] at h3
  exact ⟨blk_alloc (blk_alloc h1 _) _, blk_alloc h2 _, h3, below_alloc (below_alloc (below_alloc (Below.refl _ _) _) _) _⟩
theorem after4 {w : World} {T H : Nat} {o : Array Value} {t : TypeId} (h : w.heap[T]? = some (.cells o t (0, 0))) (hn : T ≠ H) (v0 v1 v2 v3 : Value) : ((((w.setCell ⟨H, 0, none⟩ v0).setCell ⟨H, 1, none⟩ v1).setCell ⟨H, 2, none⟩ v2).setCell ⟨H, 3, none⟩ v3).heap[T]? = some (.cells o t (0, 0)) :=
  blk_far (blk_far (blk_far (blk_far h (p := ⟨H, 0, none⟩) hn _) (p := ⟨H, 1, none⟩) hn _) (p := ⟨H, 2, none⟩) hn _) (p := ⟨H, 3, none⟩) hn _
theorem results4 {w0 w : World} {m : Mp} {h : Hd} (q : HQ w0 w m h) : ((((w.setCell ⟨w0.heap.size + 1, 0, none⟩ (.int .i64 h.f)).setCell ⟨w0.heap.size + 1, 1, none⟩ (.int .i64 h.n)).setCell ⟨w0.heap.size + 1, 2, none⟩ (.int .i64 h.p)).setCell ⟨w0.heap.size + 1, 3, none⟩ (.bool h.g)).heap[w0.heap.size + 1]? = some (.cells #[.int .i64 h.f, .int .i64 h.n, .int .i64 h.p, .bool h.g] 103 (0, 0)) ∧ Below w0.heap.size w0 ((((w.setCell ⟨w0.heap.size + 1, 0, none⟩ (.int .i64 h.f)).setCell ⟨w0.heap.size + 1, 1, none⟩ (.int .i64 h.n)).setCell ⟨w0.heap.size + 1, 2, none⟩ (.int .i64 h.p)).setCell ⟨w0.heap.size + 1, 3, none⟩ (.bool h.g)) := by
  have k0 := blk_put (cs' := #[.int .i64 h.f, .int .i64 0, .int .i64 0, .bool false]) q.res 0 (.int .i64 h.f) rfl
  have k1 := blk_put (cs' := #[.int .i64 h.f, .int .i64 h.n, .int .i64 0, .bool false]) k0 1 (.int .i64 h.n) rfl
  have k2 := blk_put (cs' := #[.int .i64 h.f, .int .i64 h.n, .int .i64 h.p, .bool false]) k1 2 (.int .i64 h.p) rfl
  have k3 := blk_put (cs' := #[.int .i64 h.f, .int .i64 h.n, .int .i64 h.p, .bool h.g]) k2 3 (.bool h.g) rfl
  have hR : w0.heap.size ≤ w0.heap.size + 1 := by omega
  exact ⟨k3, (((q.below.setCell hR _).setCell hR _).setCell hR _).setCell hR _⟩
set_option maxHeartbeats 8000000 in
theorem holds_m (w : World) (m : Mp) (h : MOk w m) (t : Int) (hs : SmallH m.L t) :
    Calls Tryd.prog 71 #[.agg #[.int .i64 m.vr, .int .i64 m.wd, .int .i64 m.cp, .int .i64 m.pr, .int .u64 m.sa, .slice m.U m.un m.uc, .slice m.A m.L.length m.C], .int .i64 t] w fun e w' => e = .returned (.agg #[.int .i64 (holds m.L t).f, .int .i64 (holds m.L t).n, .int .i64 (holds m.L t).p, .bool (holds m.L t).g]) ∧ Below w.heap.size w w' := by
  have HM := Aside.mk h
  have HS := Aside.mk hs
  have HZ := Aside.mk (three (w := w) (.cells #[.int .i64 m.vr, .int .i64 m.wd, .int .i64 m.cp, .int .i64 m.pr, .int .u64 m.sa, .slice m.U m.un m.uc, .slice m.A m.L.length m.C] 68) (.cells #[.int .i64 0, .int .i64 0, .int .i64 0, .bool false] 103) (.cells #[.int .i64 0, .int .i64 0, .int .i64 0, .bool false] 103))
  clear h hs
  go_enter Tryd.func71, Tryd.ntmps71
  go_upto_region 2 with (fail)
  have HQ0 := Aside.mk (show HQ w (((w.alloc (.cells #[.int .i64 m.vr, .int .i64 m.wd, .int .i64 m.cp, .int .i64 m.pr, .int .u64 m.sa, .slice m.U m.un m.uc, .slice m.A m.L.length m.C] 68)).alloc (.cells #[.int .i64 0, .int .i64 0, .int .i64 0, .bool false] 103)).alloc (.cells #[.int .i64 0, .int .i64 0, .int .i64 0, .bool false] 103)) m hz from ⟨HZ.out.2.2.2, HZ.out.1, HZ.out.2.1, HZ.out.2.2.1⟩)
  clear HZ
  generalize ((w.alloc (.cells #[.int .i64 m.vr, .int .i64 m.wd, .int .i64 m.cp, .int .i64 m.pr, .int .u64 m.sa, .slice m.U m.un m.uc, .slice m.A m.L.length m.C] 68)).alloc (.cells #[.int .i64 0, .int .i64 0, .int .i64 0, .bool false] 103)).alloc (.cells #[.int .i64 0, .int .i64 0, .int .i64 0, .bool false] 103) = w2 at *
  go_wp2_with fail
  go_loopw [6] (fun x wr => ∃ i : Nat, i ≤ m.L.length ∧ x = .int .i64 i ∧ Aside (HQ w wr m (holds (m.L.take i) t))) (fun x _ => m.L.length - (intOf x).toNat)
  case atStart => exact ⟨0, Nat.zero_le _, rfl, HQ0⟩
  case round =>
    clear HQ0
    obtain ⟨i, hi, rfl, HQ1⟩ := hrel
    obtain ⟨e0, e1, e2, e3, e4, e5, e6⟩ := cell7 HQ1.out.box
    by_cases hlt : i < m.L.length
    · have t1 : decide ((i : Int) < (m.L.length : Int)) = true := decide_eq_true (by omega)
      have t2 : decide (i < m.L.length) = true := decide_eq_true hlt
      have t3 : (i : Int) < (m.L.length : Int) := by omega
      have HLT := Aside.mk hlt
      have ei := i1 (show i < 4611686018427387904 by have := HM.out.n; omega)
      obtain ⟨ad, B, c, ea, a0, a1, a2, a3, a4, a5, a6, a7, a8, a9⟩ := (HM.out.o.below HQ1.out.below) i hlt
      rw [ea] at e6
      have HTK := Aside.mk (holds_take (t := t) hlt)
      have HSX := Aside.mk (HS.out i hlt)
      have HEA := Aside.mk ea
      generalize m.L[i] = x at *
      generalize holds (m.L.take i) t = hd at *
      have HQ5 := Aside.mk (HQ1.out.step (below_alloc (Below.refl wr.heap.size wr) (.cells #[.int .i64 x.e.kind, .int .i64 x.e.thread, .int .i64 x.e.op, .int .i64 x.e.n, .int .u64 x.e.pos, .int .i64 x.e.code, .slice B x.e.data.length c] 44)))
      have HT := Aside.mk (heap_alloc_new wr (.cells #[.int .i64 x.e.kind, .int .i64 x.e.thread, .int .i64 x.e.op, .int .i64 x.e.n, .int .u64 x.e.pos, .int .i64 x.e.code, .slice B x.e.data.length c] 44))
      have b7 := pw_cell_below (below_alloc (Below.refl wr.heap.size wr) (.cells #[.int .i64 x.e.kind, .int .i64 x.e.thread, .int .i64 x.e.op, .int .i64 x.e.n, .int .u64 x.e.pos, .int .i64 x.e.code, .slice B x.e.data.length c] 44)) a7
      have HTN := Aside.mk (show wr.heap.size ≠ w.heap.size + 1 + 1 by have := blk_lt HQ1.out.hb; omega)
      clear hlt hi a8 a9 ea HQ1
      go_upto_region 6 with (fail)
      generalize wr.alloc (.cells #[.int .i64 x.e.kind, .int .i64 x.e.thread, .int .i64 x.e.op, .int .i64 x.e.n, .int .u64 x.e.pos, .int .i64 x.e.code, .slice B x.e.data.length c] 44) = w5 at *
      generalize wr.heap.size = T at *
      obtain ⟨T0, T1, T2, T3, T4, T5, T6⟩ := cell7 HT.out
      by_cases ht : x.e.thread = t
      · have n1 : (x.e.thread != t) = false := by rw [ht]; simp
        unfold hstep at HTK
        rw [if_pos ht] at HTK
        by_cases k3 : x.e.kind = 3
        · have q3 : (x.e.kind == 3) = true := by rw [k3]; rfl
          have q4 : (x.e.kind == 4) = false := by rw [k3]; rfl
          have q5 : (x.e.kind == 5) = false := by rw [k3]; rfl
          rw [if_pos k3] at HTK
          clear ht k3 HSX
          obtain ⟨h0, h1, h2, h3⟩ := cell4 HQ5.out.hb
          have f0 := blk_frozen HQ5.out.hb 0
          have f1 := blk_frozen HQ5.out.hb 1
          have f2 := blk_frozen HQ5.out.hb 2
          have f3 := blk_frozen HQ5.out.hb 3
          clear e0 e1 e2 e3 e4 e5 e6
          obtain ⟨e0, e1, e2, e3, e4, e5, e6⟩ := cell7 HQ5.out.box
          rw [HEA.out] at e6
          go_wp2_with fail
          go_region
          all_goals
            have HN1 := Aside.mk ((HQ5.out.all ⟨x.c, x.e.n, 0, false⟩).step (below_drew1 (Below.refl _ _)))
            simp only at HN1
            have HT1 := Aside.mk (blk_drew (after4 HT.out HTN.out (.int .i64 x.c) (.int .i64 x.e.n) (.int .i64 0) (.bool false)))
            clear h0 h1 h2 h3 f0 f1 f2 f3 e0 e1 e2 e3 e4 e5 e6 T0 T1 T2 T3 T4 T5 T6
            generalize ((((w5.setCell ⟨w.heap.size + 1 + 1, 0, none⟩ (.int .i64 x.c)).setCell ⟨w.heap.size + 1 + 1, 1, none⟩ (.int .i64 x.e.n)).setCell ⟨w.heap.size + 1 + 1, 2, none⟩ (.int .i64 0)).setCell ⟨w.heap.size + 1 + 1, 3, none⟩ (.bool false)).drew = w6 at *
            obtain ⟨T0, T1, T2, T3, T4, T5, T6⟩ := cell7 HT1.out
            go_wp2_with fail
            go_roundw
            case rel => exact ⟨i + 1, HLT.out, by first | rfl | simp, by rw [HTK.out]; exact HN1⟩
            case measure =>
              simp only [intOf, tn1, Int.toNat_natCast]
              exact meas1 HLT.out
        · rw [if_neg k3] at HTK
          have q3 : (x.e.kind == 3) = false := beq_eq_false_iff_ne.2 k3
          obtain ⟨h0, h1, h2, h3⟩ := cell4 HQ5.out.hb
          have f2 := blk_frozen HQ5.out.hb 2
          have f3 := blk_frozen HQ5.out.hb 3
          by_cases k4 : x.e.kind = 4
          · have q4 : (x.e.kind == 4) = true := by rw [k4]; rfl
            have q5 : (x.e.kind == 5) = false := by rw [k4]; rfl
            rw [if_pos k4] at HTK
            clear ht k3 k4 HSX
            go_upto_region 11 with (fail)
            have HN1 := Aside.mk (HQ5.out.put (h' := ⟨hd.f, hd.n, hd.p, true⟩) 3 (.bool true) rfl)
            have HT1 := Aside.mk (blk_far HT.out (p := ⟨w.heap.size + 1 + 1, 3, none⟩) HTN.out (.bool true))
            clear h0 h1 h2 h3 f2 f3 e0 e1 e2 e3 e4 e5 e6 T0 T1 T2 T3 T4 T5 T6
            generalize w5.setCell ⟨w.heap.size + 1 + 1, 3, none⟩ (.bool true) = w6 at *
            obtain ⟨T0, T1, T2, T3, T4, T5, T6⟩ := cell7 HT1.out
            go_wp2_with fail
            go_roundw
            case rel => exact ⟨i + 1, HLT.out, by first | rfl | simp, by rw [HTK.out]; exact HN1⟩
            case measure =>
              simp only [intOf, tn1, Int.toNat_natCast]
              exact meas1 HLT.out
          · have q4 : (x.e.kind == 4) = false := beq_eq_false_iff_ne.2 k4
            rw [if_neg k4] at HTK
            by_cases k5 : x.e.kind = 5
            · have q5 : (x.e.kind == 5) = true := by rw [k5]; rfl
              rw [if_pos k5] at HTK
              unfold afterPut at HTK
              have ew := w64 (HSX.out k5 ht)
              clear ht k3 k4 k5 HSX
              go_upto_region 13 with (fail)
              have HN1 := Aside.mk (HQ5.out.put (h' := ⟨hd.f, hd.n, hd.p + x.e.n, hd.g⟩) 2 (.int .i64 (hd.p + x.e.n)) rfl)
              have HT1 := Aside.mk (blk_far HT.out (p := ⟨w.heap.size + 1 + 1, 2, none⟩) HTN.out (.int .i64 (hd.p + x.e.n)))
              rw [ew]
              clear h0 h1 h2 h3 f2 f3 e0 e1 e2 e3 e4 e5 e6 T0 T1 T2 T3 T4 T5 T6
              generalize w5.setCell ⟨w.heap.size + 1 + 1, 2, none⟩ (.int .i64 (hd.p + x.e.n)) = w6 at *
              obtain ⟨h0, h1, h2, h3⟩ := cell4 HN1.out.hb
              by_cases hpn : hd.p + x.e.n = hd.n
              · have y1 : (hd.p + x.e.n == hd.n) = true := by rw [hpn]; exact beq_self_eq_true _
                rw [if_pos hpn] at HTK
                have HN2 := Aside.mk (HN1.out.all hz)
                have f0 := blk_frozen HN1.out.hb 0
                have f1 := blk_frozen HN1.out.hb 1
                have f2 := blk_frozen HN1.out.hb 2
                have f3 := blk_frozen HN1.out.hb 3
                clear hpn
                go_wp2_with fail
                go_roundw
                case rel => exact ⟨i + 1, HLT.out, by first | rfl | simp, by rw [HTK.out]; exact HN2⟩
                case measure =>
                  simp only [intOf, tn1, Int.toNat_natCast]
                  exact meas1 HLT.out
              · have y1 : (hd.p + x.e.n == hd.n) = false := beq_eq_false_iff_ne.2 hpn
                rw [if_neg hpn] at HTK
                clear hpn
                go_wp2_with fail
                go_roundw
                case rel => exact ⟨i + 1, HLT.out, by first | rfl | simp, by rw [HTK.out]; exact HN1⟩
                case measure =>
                  simp only [intOf, tn1, Int.toNat_natCast]
                  exact meas1 HLT.out
            · have q5 : (x.e.kind == 5) = false := beq_eq_false_iff_ne.2 k5
              rw [if_neg k5] at HTK
              clear ht k3 k4 k5 HSX
              go_wp2_with fail
              go_roundw
              case rel => exact ⟨i + 1, HLT.out, by first | rfl | simp, by rw [HTK.out]; exact HQ5⟩
              case measure =>
                simp only [intOf, tn1, Int.toNat_natCast]
                exact meas1 HLT.out
      · have n1 : (x.e.thread != t) = true := by simpa using ht
        unfold hstep at HTK
        rw [if_neg ht] at HTK
        clear ht HSX
        go_wp2_with fail
        go_roundw
        case rel => exact ⟨i + 1, HLT.out, by first | rfl | simp, by rw [HTK.out]; exact HQ5⟩
        case measure =>
          simp only [intOf, tn1, Int.toNat_natCast]
          exact meas1 HLT.out
    · obtain rfl : i = m.L.length := by omega
      rw [List.take_length] at HQ1
      have t1 : decide ((m.L.length : Int) < (m.L.length : Int)) = false := decide_eq_false (by omega)
      have t2 : decide (m.L.length < m.L.length) = false := decide_eq_false (by omega)
      have HF := Aside.mk (results4 HQ1.out)
      obtain ⟨h0, h1, h2, h3⟩ := cell4 HQ1.out.hb
      obtain ⟨r0, r1, r2, r3⟩ := cell4 HQ1.out.res
      have f0 := blk_frozen HQ1.out.res 0
      have f1 := blk_frozen HQ1.out.res 1
      have f2 := blk_frozen HQ1.out.res 2
      have f3 := blk_frozen HQ1.out.res 3
      clear hi hlt
      generalize hhd : holds m.L t = hd at *
      have HHD := Aside.mk hhd
      clear hhd
      go_wp2
      refine bodyPost_ret (results_cell_row rfl _ _ (w.heap.size + 1) 103 #[.int .i64 hd.f, .int .i64 hd.n, .int .i64 hd.p, .bool hd.g] (0, 0) _ rfl HF.out.1 Tryd.underlying103 rfl (by kernel_rfl)) rfl ?_
      exact ⟨by rw [HHD.out], HF.out.2⟩
end Go.Proofs.YtnnfcdffnckoiaaDoor.Mo
/- Counters of a width: the program's and the document's reckoning are one. -/
set_option linter.unusedVariables false
set_option linter.unusedSimpArgs false
namespace Go.Proofs.YtnnfcdffnckoiaaDoor.Mo
open Go.RowKit Go.Proofs.YtnnfcdffnckoiaaDoorW.PrintWords QWi
def U64 (a : Int) : Prop := 0 ≤ a ∧ a < 18446744073709551616
def gapW (n a b : Int) : Int := (wide_Gap.f n a b).getD 0
def plusW (n a m : Int) : Int := (wide_Plus.f n a m).getD 0
def cutW (n a : Int) : Int := (sakiaref01_Cut.f n a).getD 0
theorem gap_f (n a b : Int) : wide_Gap.f n a b = some (gapW n a b) := by
  unfold gapW wide_Gap.f wide_Diff_uint32.f wide_Diff_uint64.f wide_signed_uint32.f wide_signed_uint64.f wide_Bits_uint32.f wide_Bits_uint64.f wide_Of_uint32.f
  simp only [Option.bind_some]
  repeat' split
  all_goals rfl
theorem plus_f (n a m : Int) : wide_Plus.f n a m = some (plusW n a m) := by
  unfold plusW wide_Plus.f wide_Of_uint32.f wide_Add_uint32.f wide_Up_uint32.f wide_Add_uint64.f
  simp only [Option.bind_some]
  repeat' split
  all_goals rfl
theorem cut_f (n a : Int) : sakiaref01_Cut.f n a = some (cutW n a) := by
  unfold cutW sakiaref01_Cut.f
  repeat' split
  all_goals rfl
theorem u64w (x : Int) : IntKind.u64.wrap x = x % 18446744073709551616 := by rw [IntKind.wrap_u64]
theorem tm {x : Int} (h : 0 ≤ x) (y : Int) : Int.tmod x y = x % y := Int.tmod_eq_emod_of_nonneg h
theorem rgap_f {n a b : Int} (ha : U64 a) (hb : U64 b) : sakiaref01_Gap.f n a b = some (gapW n a b) := by
  obtain ⟨a0, a1⟩ := ha
  obtain ⟨b0, b1⟩ := hb
  unfold gapW sakiaref01_Gap.f wide_Gap.f wide_Diff_uint32.f wide_Diff_uint64.f wide_signed_uint32.f wide_signed_uint64.f wide_Bits_uint32.f wide_Bits_uint64.f wide_Of_uint32.f
  simp only [Option.bind_some]
  by_cases h64 : n = 64
  · subst h64
    rfl
  · rw [if_neg h64]
    by_cases h32 : n = 32
    · subst h32
      simp only [if_true, Option.getD_some, Option.bind_some]
      simp only [u64w, tm a0, tm b0]
      rw [tm (by omega)]
      split
      all_goals
        congr 1
        unfold wrap64 wrap32
        omega
    · rw [if_neg h32, if_neg h32, if_neg h64]
      rfl
theorem rplus_f {n a m : Int} (ha : U64 a) : sakiaref01_Plus.f n a m = some (plusW n a m) := by
  obtain ⟨a0, a1⟩ := ha
  unfold plusW sakiaref01_Plus.f sakiaref01_Cut.f wide_Plus.f wide_Of_uint32.f wide_Add_uint32.f wide_Up_uint32.f wide_Add_uint64.f
  simp only [Option.bind_some, u64w]
  by_cases h32 : n = 32
  · rw [if_pos h32, if_pos h32]
    simp only [Option.bind_some, Option.getD_some]
    rw [tm (by omega)]
    congr 1
    omega
  · rw [if_neg h32, if_neg h32]
    by_cases h64 : n = 64
    · rw [if_pos h64]
      rfl
    · rw [if_neg h64]
      rfl
theorem start_f (v n c p s : Int) (up : List (List Int)) : sakiaref10_Start.f v n c p s up = some (cutW n s) := by
  unfold sakiaref10_Start.f
  rw [cut_f]; rfl
theorem cut_u {n s : Int} (h : U64 s) : U64 (cutW n s) := by
  obtain ⟨h0, h1⟩ := h
  unfold cutW sakiaref01_Cut.f U64
  split
  · rw [Option.getD_some, tm h0]; omega
  split
  · exact ⟨h0, h1⟩
  · decide
theorem plus_u {n a m : Int} (h : U64 a) : U64 (plusW n a m) := by
  obtain ⟨h0, h1⟩ := h
  unfold plusW wide_Plus.f wide_Of_uint32.f wide_Add_uint32.f wide_Up_uint32.f wide_Add_uint64.f U64
  simp only [Option.bind_some, u64w]
  split
  · simp only [Option.bind_some, Option.getD_some]; omega
  split
  · simp only [Option.bind_some, Option.getD_some]; omega
  · decide
theorem wrapE (x : Int) : IntKind.i64.wrap x = wrap64 x := by rw [IntKind.wrap_i64]; unfold wrap64; rfl
/-- The count of a position. -/
def cntW (n s t pos : Int) : Int := wrap64 (t + gapW n pos (plusW n (cutW n s) t))
/-- What is held while a count is reckoned. -/
structure UB (w0 w : World) (m : Mp) (up : List (List Int)) : Prop where
  b : Below w0.heap.size w0 w
  u : Kd.C (Kd.slice 3 (Kd.int .i64)) w m.U up.length up
theorem heldU {w0 w w' : World} {Q : Nat} {m : Mp} {up : List (List Int)} (b : Below w.heap.size w w') (h : (fun w' : World => w'.cell? ⟨Q, 0, none⟩ = some (.int .i64 m.vr) ∧ w'.cell? ⟨Q, 1, none⟩ = some (.int .i64 m.wd) ∧ w'.cell? ⟨Q, 2, none⟩ = some (.int .i64 m.cp) ∧ w'.cell? ⟨Q, 3, none⟩ = some (.int .i64 m.pr) ∧ w'.cell? ⟨Q, 4, none⟩ = some (.int .u64 m.sa) ∧ w'.cell? ⟨Q, 5, none⟩ = some (.slice m.U up.length m.uc) ∧ w'.cell? ⟨Q, 6, none⟩ = some (.slice m.A m.L.length m.C) ∧ UB w0 w' m up) w) : (fun w' : World => w'.cell? ⟨Q, 0, none⟩ = some (.int .i64 m.vr) ∧ w'.cell? ⟨Q, 1, none⟩ = some (.int .i64 m.wd) ∧ w'.cell? ⟨Q, 2, none⟩ = some (.int .i64 m.cp) ∧ w'.cell? ⟨Q, 3, none⟩ = some (.int .i64 m.pr) ∧ w'.cell? ⟨Q, 4, none⟩ = some (.int .u64 m.sa) ∧ w'.cell? ⟨Q, 5, none⟩ = some (.slice m.U up.length m.uc) ∧ w'.cell? ⟨Q, 6, none⟩ = some (.slice m.A m.L.length m.C) ∧ UB w0 w' m up) w' := by
  obtain ⟨h0, h1, h2, h3, h4, h5, h6, h7⟩ := h
  have go : ∀ {p : Addr} {v : Value}, w.cell? p = some v → w'.cell? p = some v := fun hp => (b.cell (World.block_lt_of_cell? _ _ hp)).trans hp
  exact ⟨go h0, go h1, go h2, go h3, go h4, go h5, go h6, ⟨h7.b.trans (b.mono h7.b.size), Kd.C_below h7.u b⟩⟩
theorem ubOf {w0 w' : World} {Q : Nat} {m : Mp} {up : List (List Int)} (h : w'.cell? ⟨Q, 0, none⟩ = some (.int .i64 m.vr) ∧ w'.cell? ⟨Q, 1, none⟩ = some (.int .i64 m.wd) ∧ w'.cell? ⟨Q, 2, none⟩ = some (.int .i64 m.cp) ∧ w'.cell? ⟨Q, 3, none⟩ = some (.int .i64 m.pr) ∧ w'.cell? ⟨Q, 4, none⟩ = some (.int .u64 m.sa) ∧ w'.cell? ⟨Q, 5, none⟩ = some (.slice m.U up.length m.uc) ∧ w'.cell? ⟨Q, 6, none⟩ = some (.slice m.A m.L.length m.C) ∧ UB w0 w' m up) : UB w0 w' m up := h.2.2.2.2.2.2.2
theorem drawn_below {w w' : World} (h : Drawn0 w w') : Below w.heap.size w w' := by
  obtain ⟨n, rfl⟩ := h
  exact pw_below_drewN (Below.refl _ _) n
theorem start_c {w : World} {v n c p s : Int} {A : Option Addr} {C : Nat} {up : List (List Int)} (hu : Kd.C (Kd.slice 3 (Kd.int .i64)) w A up.length up) (hc : up.length ≤ C) : Calls Tryd.prog 84 #[.agg #[.int .i64 v, .int .i64 n, .int .i64 c, .int .i64 p, .int .u64 s, .slice A up.length C]] w fun e w' => e = .returned (.int .u64 (cutW n s)) ∧ Below w.heap.size w w' :=
  (sakiaref10_Start.calls v n c p s A C up _ w hu hc (start_f _ _ _ _ _ _)).mono fun e w' h => h
theorem rgap_c {n a b : Int} (ha : U64 a) (hb : U64 b) (w : World) : Calls Tryd.prog 82 #[.int .i64 n, .int .u64 a, .int .u64 b] w fun e w' => e = .returned (.int .i64 (gapW n a b)) ∧ Below w.heap.size w w' :=
  (sakiaref01_Gap.calls n a b _ w (rgap_f ha hb)).mono fun e w' ⟨h, d⟩ => ⟨h, drawn_below d⟩
theorem rplus_c {n a m : Int} (ha : U64 a) (w : World) : Calls Tryd.prog 83 #[.int .i64 n, .int .u64 a, .int .i64 m] w fun e w' => e = .returned (.int .u64 (plusW n a m)) ∧ Below w.heap.size w w' :=
  (sakiaref01_Plus.calls n a m _ w (rplus_f ha)).mono fun e w' ⟨h, d⟩ => ⟨h, drawn_below d⟩
set_option maxHeartbeats 4000000 in
theorem count_m (w : World) (m : Mp) (h : MOk w m) (up : List (List Int)) (hu : Kd.C (Kd.slice 3 (Kd.int .i64)) w m.U up.length up) (hul : m.un = up.length) (huc : up.length ≤ m.uc) (hs : U64 m.sa) (pos : Int) (hp : U64 pos) :
    Calls Tryd.prog 38 #[.agg #[.int .i64 m.vr, .int .i64 m.wd, .int .i64 m.cp, .int .i64 m.pr, .int .u64 m.sa, .slice m.U m.un m.uc, .slice m.A m.L.length m.C], .int .u64 pos] w fun e w' => e = .returned (.int .i64 (cntW m.wd m.sa (taken m.L) pos)) ∧ Below w.heap.size w w' := by
  have HM := Aside.mk (h.below (below_alloc (Below.refl w.heap.size w) (.cells #[.int .i64 m.vr, .int .i64 m.wd, .int .i64 m.cp, .int .i64 m.pr, .int .u64 m.sa, .slice m.U m.un m.uc, .slice m.A m.L.length m.C] 68)))
  have HU := Aside.mk (show UB w (w.alloc (.cells #[.int .i64 m.vr, .int .i64 m.wd, .int .i64 m.cp, .int .i64 m.pr, .int .u64 m.sa, .slice m.U m.un m.uc, .slice m.A m.L.length m.C] 68)) m up from ⟨below_alloc (Below.refl w.heap.size w) (.cells #[.int .i64 m.vr, .int .i64 m.wd, .int .i64 m.cp, .int .i64 m.pr, .int .u64 m.sa, .slice m.U m.un m.uc, .slice m.A m.L.length m.C] 68), Kd.C_below hu (below_alloc (Below.refl w.heap.size w) (.cells #[.int .i64 m.vr, .int .i64 m.wd, .int .i64 m.cp, .int .i64 m.pr, .int .u64 m.sa, .slice m.U m.un m.uc, .slice m.A m.L.length m.C] 68))⟩)
  have HX := Aside.mk (heap_alloc_new w (.cells #[.int .i64 m.vr, .int .i64 m.wd, .int .i64 m.cp, .int .i64 m.pr, .int .u64 m.sa, .slice m.U m.un m.uc, .slice m.A m.L.length m.C] 68))
  have HC := Aside.mk huc
  have HS := Aside.mk hs
  have HP := Aside.mk hp
  have HUL := Aside.mk hul
  clear h hu huc hs hp hul
  go_enter Tryd.func38, Tryd.ntmps38
  go_upto_region 1 with (fail)
  generalize w.alloc (.cells #[.int .i64 m.vr, .int .i64 m.wd, .int .i64 m.cp, .int .i64 m.pr, .int .u64 m.sa, .slice m.U m.un m.uc, .slice m.A m.L.length m.C] 68) = w2 at *
  generalize w.heap.size = Q at HX ⊢
  rw [HUL.out] at HX ⊢
  obtain ⟨e0, e1, e2, e3, e4, e5, e6⟩ := cell7 HX.out
  go_wp2_with fail
  have HTM := Aside.mk (taken_m _ m HM.out)
  rw [HUL.out] at HTM
  refine HTM.out.mono ?_
  rintro e w3 ⟨rfl, hb⟩
  have hHD := heldU ((below_drew1 (Below.refl w3.heap.size w3))) (heldU hb (And.intro e0 (And.intro e1 (And.intro e2 (And.intro e3 (And.intro e4 (And.intro e5 (And.intro e6 HU.out))))))))
  clear e0 e1 e2 e3 e4 e5 e6 hb HU HX HM
  generalize htk : taken m.L = tk at *
  have HTK := Aside.mk htk
  clear htk
  go_wp2_with fail
  go_region_held3 (fun w' => w'.cell? ⟨Q, 0, none⟩ = some (.int .i64 m.vr) ∧ w'.cell? ⟨Q, 1, none⟩ = some (.int .i64 m.wd) ∧ w'.cell? ⟨Q, 2, none⟩ = some (.int .i64 m.cp) ∧ w'.cell? ⟨Q, 3, none⟩ = some (.int .i64 m.pr) ∧ w'.cell? ⟨Q, 4, none⟩ = some (.int .u64 m.sa) ∧ w'.cell? ⟨Q, 5, none⟩ = some (.slice m.U up.length m.uc) ∧ w'.cell? ⟨Q, 6, none⟩ = some (.slice m.A m.L.length m.C) ∧ UB w w' m up) (first | exact hHD | exact heldU (by assumption) (by assumption))
    (first | (go_at_call 84; refine (start_c (ubOf (by assumption)).u HC.out).mono ?_; rintro e w4 ⟨rfl, b⟩) | (go_at_call 83; refine (rplus_c (cut_u HS.out) _).mono ?_; rintro e w4 ⟨rfl, b⟩) | (go_at_call 82; refine (rgap_c HP.out (plus_u (cut_u HS.out)) _).mono ?_; rintro e w4 ⟨rfl, b⟩))
  have HG := Aside.mk (ubOf (by assumption))
  go_wp2
  go_ret
  exact ⟨by unfold cntW; rw [HTK.out, ← wrapE]; rfl, HG.out.b⟩
/-- Which consumer a thread is. -/
def consI (m : Mp) (t : Int) : Int := if t < m.pr ∨ m.pr + m.un ≤ t then -1 else t - m.pr
set_option maxHeartbeats 4000000 in
theorem cons_m (w : World) (m : Mp) (h : MOk w m) (hn : m.un ≤ 100) (t : Int) (ht : -9223372036854775808 ≤ t ∧ t < 9223372036854775808) :
    Calls Tryd.prog 113 #[.agg #[.int .i64 m.vr, .int .i64 m.wd, .int .i64 m.cp, .int .i64 m.pr, .int .u64 m.sa, .slice m.U m.un m.uc, .slice m.A m.L.length m.C], .int .i64 t] w fun e w' => e = .returned (.int .i64 (consI m t)) ∧ Below w.heap.size w w' := by
  have HB := Aside.mk (below_alloc (Below.refl w.heap.size w) (.cells #[.int .i64 m.vr, .int .i64 m.wd, .int .i64 m.cp, .int .i64 m.pr, .int .u64 m.sa, .slice m.U m.un m.uc, .slice m.A m.L.length m.C] 68))
  have HX := Aside.mk (heap_alloc_new w (.cells #[.int .i64 m.vr, .int .i64 m.wd, .int .i64 m.cp, .int .i64 m.pr, .int .u64 m.sa, .slice m.U m.un m.uc, .slice m.A m.L.length m.C] 68))
  have ew := w64 (show -4611686018427387904 ≤ m.pr + (m.un : Int) ∧ m.pr + (m.un : Int) ≤ 4611686018427387904 by have := h.p; omega)
  have HPR := Aside.mk h.p
  clear h
  by_cases h1 : t < m.pr
  · have t1 : decide (t < m.pr) = true := decide_eq_true h1
    have e : consI m t = -1 := by unfold consI; rw [if_pos (.inl h1)]
    rw [e]
    clear e h1
    go_enter Tryd.func113, Tryd.ntmps113
    go_upto_region 1 with (fail)
    generalize w.alloc (.cells #[.int .i64 m.vr, .int .i64 m.wd, .int .i64 m.cp, .int .i64 m.pr, .int .u64 m.sa, .slice m.U m.un m.uc, .slice m.A m.L.length m.C] 68) = w2 at *
    obtain ⟨e0, e1, e2, e3, e4, e5, e6⟩ := cell7 HX.out
    go_wp2
    go_ret
    exact ⟨rfl, HB.out⟩
  · have t1 : decide (t < m.pr) = false := decide_eq_false h1
    by_cases h2 : m.pr + (m.un : Int) ≤ t
    · have t2 : decide (m.pr + (m.un : Int) ≤ t) = true := decide_eq_true h2
      have e : consI m t = -1 := by unfold consI; rw [if_pos (.inr h2)]
      rw [e]
      clear e h1 h2
      go_enter Tryd.func113, Tryd.ntmps113
      go_upto_region 1 with (fail)
      generalize w.alloc (.cells #[.int .i64 m.vr, .int .i64 m.wd, .int .i64 m.cp, .int .i64 m.pr, .int .u64 m.sa, .slice m.U m.un m.uc, .slice m.A m.L.length m.C] 68) = w2 at *
      obtain ⟨e0, e1, e2, e3, e4, e5, e6⟩ := cell7 HX.out
      go_wp2
      go_ret
      exact ⟨rfl, HB.out⟩
    · have t2 : decide (m.pr + (m.un : Int) ≤ t) = false := decide_eq_false h2
      have es := w64 (show -4611686018427387904 ≤ t - m.pr ∧ t - m.pr ≤ 4611686018427387904 by have := HPR.out; omega)
      have e : consI m t = t - m.pr := by unfold consI; rw [if_neg (by omega)]
      rw [e]
      clear e h1 h2
      go_enter Tryd.func113, Tryd.ntmps113
      go_upto_region 1 with (fail)
      generalize w.alloc (.cells #[.int .i64 m.vr, .int .i64 m.wd, .int .i64 m.cp, .int .i64 m.pr, .int .u64 m.sa, .slice m.U m.un m.uc, .slice m.A m.L.length m.C] 68) = w2 at *
      obtain ⟨e0, e1, e2, e3, e4, e5, e6⟩ := cell7 HX.out
      go_wp2
      go_ret
      exact ⟨Eq.trans (b := .returned (.int .i64 (wrap64 (t - m.pr)))) rfl (by rw [es]), HB.out⟩
end Go.Proofs.YtnnfcdffnckoiaaDoor.Mo
/- The document's model: the least gate, a consumer's limit, the space. -/
set_option linter.unusedVariables false
set_option linter.unusedSimpArgs false
set_option maxRecDepth 100000
namespace Go.Proofs.YtnnfcdffnckoiaaDoor.Mo
open Go.RowKit Go.Proofs.YtnnfcdffnckoiaaDoorW.PrintWords Go.Proofs.YtnnfcdffnckoiaaDoorW.PrintLast Go.Proofs.YtnnfcdffnckoiaaDoorW.PrintMore
open Graph (checkG Fine Gv endsI ref_ends fine_of)
attribute [local go_sem] max2_int min2_int max_two min_two
/-- Numbers, as they stand in a list of the program. -/
def ints (l : List Nat) : List Int := l.map fun (c : Nat) => (c : Int)
/-- What the document's model is asked with: what happened, and what it stands for. -/
structure RefOk (w : World) (m : Mp) (up : List (List Int)) (cx : Cx) (st : St) : Prop where
  mo : MOk w m
  un : m.un = up.length
  uc : up.length ≤ m.uc
  u : Kd.C (Kd.slice 3 (Kd.int .i64)) w m.U up.length up
  sm : QGc.Sm up
  ck : checkG up = 0
  us : U64 m.sa
  cp : m.cp = cx.cap
  pr : m.pr = cx.prod
  uq : up = cx.up.map ints
  eq : endsI up = ints cx.ends
  ct : ∀ t p, cx.cnt t p = cntW m.wd m.sa t p
  wf : Wf cx st
  rel : Rel cx st m.L
  hs : ∀ t, SmallH m.L t
  c64 : 1 ≤ cx.cap ∧ cx.cap ≤ 64
  p4 : cx.prod ≤ 4
  u6 : cx.up.length ≤ 6
  ub : ∀ l ∈ cx.up, ∀ c ∈ l, c < cx.up.length
  eb : ∀ c ∈ cx.ends, c < cx.up.length
  en : cx.ends ≠ []
  tb : st.taken ≤ 100000
  gb : ∀ k, 0 ≤ st.gate.getD k 0 ∧ st.gate.getD k 0 ≤ 100000
  rb : 0 ≤ st.granted ∧ st.granted ≤ 100000
theorem RefOk.below {w w' : World} {m : Mp} {up : List (List Int)} {cx : Cx} {st : St} (h : RefOk w m up cx st) (b : Below w.heap.size w w') : RefOk w' m up cx st :=
  { h with mo := h.mo.below b, u := Kd.C_below h.u b }
/-- The document's least of some gates is the program's. -/
theorem low_min (G : Nat → Int) (l : List Nat) (hl : l ≠ []) : lowG (fun c => G c.toNat) (ints l) = l.foldl (fun n c => min n (G c)) (G (l.headD 0)) := by
  obtain ⟨x, r, rfl⟩ : ∃ x r, l = x :: r := by
    cases l with
    | nil => exact absurd rfl hl
    | cons x r => exact ⟨x, r, rfl⟩
  unfold lowG ints
  simp only [List.map_cons, List.tail_cons, List.headD_cons, Int.toNat_natCast, List.foldl_cons, Int.min_self]
  rw [List.foldl_map]
  simp only [Int.toNat_natCast]
  congr 1
  funext n c
  split <;> omega
theorem low_congr {G H : Int → Int} {l : List Int} (hl : l ≠ []) (h : ∀ c ∈ l, G c = H c) : lowG G l = lowG H l := by
  obtain ⟨x, r, rfl⟩ : ∃ x r, l = x :: r := by
    cases l with
    | nil => exact absurd rfl hl
    | cons x r => exact ⟨x, r, rfl⟩
  unfold lowG
  simp only [List.tail_cons, List.headD_cons]
  rw [h x (by simp)]
  have hr : ∀ c ∈ r, G c = H c := fun c hc => h c (by simp [hc])
  clear h
  generalize H x = n
  clear hl
  induction r generalizing n with
  | nil => rfl
  | cons y r ih =>
    simp only [List.foldl_cons]
    rw [hr y (by simp)]
    exact ih (fun c hc => hr c (by simp [hc])) _
theorem gates_least {w : World} {m : Mp} {up : List (List Int)} {cx : Cx} {st : St} (h : RefOk w m up cx st) {l : List Nat} (hl : l ≠ []) (hb : ∀ c ∈ l, c < cx.up.length) : lowG (fun c => lastOf m.pr m.L c 7) (ints l) = least st.gate l := by
  unfold least
  rw [← low_min (fun c => st.gate.getD c 0) l hl]
  refine low_congr (by simpa [ints] using hl) fun c hc => ?_
  obtain ⟨k, hk, rfl⟩ := List.mem_map.1 hc
  rw [h.pr, h.rel.gt k (hb k hk), Int.toNat_natCast]
/-- What is held while the least gate is looked for. -/
structure VB (w0 w : World) (m : Mp) (up : List (List Int)) (cx : Cx) (st : St) : Prop where
  b : Below w0.heap.size w0 w
  r : RefOk w m up cx st
theorem VB.step {w0 w w' : World} {m : Mp} {up : List (List Int)} {cx : Cx} {st : St} (h : VB w0 w m up cx st) (b : Below w.heap.size w w') : VB w0 w' m up cx st := ⟨h.b.trans (b.mono h.b.size), h.r.below b⟩
theorem heldV {w0 w w' : World} {Q : Nat} {m : Mp} {up : List (List Int)} {cx : Cx} {st : St} (b : Below w.heap.size w w') (h : (fun w' : World => w'.cell? ⟨Q, 0, none⟩ = some (.int .i64 m.vr) ∧ w'.cell? ⟨Q, 1, none⟩ = some (.int .i64 m.wd) ∧ w'.cell? ⟨Q, 2, none⟩ = some (.int .i64 m.cp) ∧ w'.cell? ⟨Q, 3, none⟩ = some (.int .i64 m.pr) ∧ w'.cell? ⟨Q, 4, none⟩ = some (.int .u64 m.sa) ∧ w'.cell? ⟨Q, 5, none⟩ = some (.slice m.U m.un m.uc) ∧ w'.cell? ⟨Q, 6, none⟩ = some (.slice m.A m.L.length m.C) ∧ VB w0 w' m up cx st) w) : (fun w' : World => w'.cell? ⟨Q, 0, none⟩ = some (.int .i64 m.vr) ∧ w'.cell? ⟨Q, 1, none⟩ = some (.int .i64 m.wd) ∧ w'.cell? ⟨Q, 2, none⟩ = some (.int .i64 m.cp) ∧ w'.cell? ⟨Q, 3, none⟩ = some (.int .i64 m.pr) ∧ w'.cell? ⟨Q, 4, none⟩ = some (.int .u64 m.sa) ∧ w'.cell? ⟨Q, 5, none⟩ = some (.slice m.U m.un m.uc) ∧ w'.cell? ⟨Q, 6, none⟩ = some (.slice m.A m.L.length m.C) ∧ VB w0 w' m up cx st) w' := by
  obtain ⟨h0, h1, h2, h3, h4, h5, h6, h7⟩ := h
  have go : ∀ {p : Addr} {v : Value}, w.cell? p = some v → w'.cell? p = some v := fun hp => (b.cell (World.block_lt_of_cell? _ _ hp)).trans hp
  exact ⟨go h0, go h1, go h2, go h3, go h4, go h5, go h6, h7.step b⟩
theorem vbOf {w0 w' : World} {Q : Nat} {m : Mp} {up : List (List Int)} {cx : Cx} {st : St} (h : w'.cell? ⟨Q, 0, none⟩ = some (.int .i64 m.vr) ∧ w'.cell? ⟨Q, 1, none⟩ = some (.int .i64 m.wd) ∧ w'.cell? ⟨Q, 2, none⟩ = some (.int .i64 m.cp) ∧ w'.cell? ⟨Q, 3, none⟩ = some (.int .i64 m.pr) ∧ w'.cell? ⟨Q, 4, none⟩ = some (.int .u64 m.sa) ∧ w'.cell? ⟨Q, 5, none⟩ = some (.slice m.U m.un m.uc) ∧ w'.cell? ⟨Q, 6, none⟩ = some (.slice m.A m.L.length m.C) ∧ VB w0 w' m up cx st) : VB w0 w' m up cx st := h.2.2.2.2.2.2.2
theorem ends_c {w : World} {m : Mp} {up : List (List Int)} {cx : Cx} {st : St} (h : RefOk w m up cx st) : Calls Tryd.prog 56 #[.slice m.U m.un m.uc] w fun e w' => ∃ A' c', e = .returned (.slice A' (endsI up).length c') ∧ Graph.Rv w' A' c' (endsI up) ∧ Below w.heap.size w w' := by
  rw [h.un]
  exact ref_ends ⟨h.u, h.uc, h.sm⟩ (fine_of h.ck)
theorem low_c {w : World} {m : Mp} {up : List (List Int)} {cx : Cx} {st : St} (h : RefOk w m up cx st) {A : Option Addr} {c : Nat} (hv : Graph.Rv w A c (endsI up)) : Calls Tryd.prog 114 #[.agg #[.int .i64 m.vr, .int .i64 m.wd, .int .i64 m.cp, .int .i64 m.pr, .int .u64 m.sa, .slice m.U m.un m.uc, .slice m.A m.L.length m.C], .slice A (endsI up).length c] w fun e w' => e = .returned (.int .i64 (least st.gate cx.ends)) ∧ Below w.heap.size w w' := by
  rw [← gates_least h h.en h.eb, ← h.eq]
  refine lowest_m w m h.mo A c (endsI up) hv.rd hv.cap ?_ ?_ ?_
  · rw [h.eq]; unfold ints; rw [List.length_map]; exact List.length_pos_iff.2 h.en
  · have := Graph.pick_len (fun x => !Graph.namedB up up.length x) up.length
    have h2 := h.u6
    rw [h.uq]
    rw [h.uq] at this
    unfold endsI
    rw [List.length_map] at *
    omega
  · intro x hx
    rw [h.eq] at hx
    obtain ⟨k, hk, rfl⟩ := List.mem_map.1 hx
    have := h.eb k hk
    have := h.u6
    omega
set_option maxHeartbeats 4000000 in
theorem least_m (w : World) (m : Mp) (up : List (List Int)) (cx : Cx) (st : St) (h : RefOk w m up cx st) :
    Calls Tryd.prog 74 #[.agg #[.int .i64 m.vr, .int .i64 m.wd, .int .i64 m.cp, .int .i64 m.pr, .int .u64 m.sa, .slice m.U m.un m.uc, .slice m.A m.L.length m.C]] w fun e w' => e = .returned (.int .i64 (least st.gate cx.ends)) ∧ Below w.heap.size w w' := by
  have HV := Aside.mk (show VB w (w.alloc (.cells #[.int .i64 m.vr, .int .i64 m.wd, .int .i64 m.cp, .int .i64 m.pr, .int .u64 m.sa, .slice m.U m.un m.uc, .slice m.A m.L.length m.C] 68)) m up cx st from ⟨below_alloc (Below.refl w.heap.size w) (.cells #[.int .i64 m.vr, .int .i64 m.wd, .int .i64 m.cp, .int .i64 m.pr, .int .u64 m.sa, .slice m.U m.un m.uc, .slice m.A m.L.length m.C] 68), h.below (below_alloc (Below.refl w.heap.size w) (.cells #[.int .i64 m.vr, .int .i64 m.wd, .int .i64 m.cp, .int .i64 m.pr, .int .u64 m.sa, .slice m.U m.un m.uc, .slice m.A m.L.length m.C] 68))⟩)
  have HX := Aside.mk (heap_alloc_new w (.cells #[.int .i64 m.vr, .int .i64 m.wd, .int .i64 m.cp, .int .i64 m.pr, .int .u64 m.sa, .slice m.U m.un m.uc, .slice m.A m.L.length m.C] 68))
  clear h
  go_enter Tryd.func74, Tryd.ntmps74
  go_upto_region 1 with (fail)
  generalize w.alloc (.cells #[.int .i64 m.vr, .int .i64 m.wd, .int .i64 m.cp, .int .i64 m.pr, .int .u64 m.sa, .slice m.U m.un m.uc, .slice m.A m.L.length m.C] 68) = w2 at *
  generalize w.heap.size = Q at HX ⊢
  obtain ⟨e0, e1, e2, e3, e4, e5, e6⟩ := cell7 HX.out
  have hHD := heldV (below_drew1 (Below.refl w2.heap.size w2)) (And.intro e0 (And.intro e1 (And.intro e2 (And.intro e3 (And.intro e4 (And.intro e5 (And.intro e6 HV.out)))))))
  clear HV HX
  go_wp2_with fail
  go_region_held3 (fun w' => w'.cell? ⟨Q, 0, none⟩ = some (.int .i64 m.vr) ∧ w'.cell? ⟨Q, 1, none⟩ = some (.int .i64 m.wd) ∧ w'.cell? ⟨Q, 2, none⟩ = some (.int .i64 m.cp) ∧ w'.cell? ⟨Q, 3, none⟩ = some (.int .i64 m.pr) ∧ w'.cell? ⟨Q, 4, none⟩ = some (.int .u64 m.sa) ∧ w'.cell? ⟨Q, 5, none⟩ = some (.slice m.U m.un m.uc) ∧ w'.cell? ⟨Q, 6, none⟩ = some (.slice m.A m.L.length m.C) ∧ VB w w' m up cx st) (first | exact hHD | exact heldV (by assumption) (by assumption))
    (first | (go_at_call 56; refine (ends_c (vbOf (by assumption)).r).mono ?_; rintro e w4 ⟨A9, c9, rfl, rv, b⟩) | (go_at_call 114; refine (low_c (vbOf (by assumption)).r (by assumption)).mono ?_; rintro e w4 ⟨rfl, b⟩))
  have HG := Aside.mk (vbOf (by assumption))
  go_wp2
  go_ret
  exact ⟨rfl, HG.out.b⟩
theorem least_bd {gate : List Int} (h : ∀ k, 0 ≤ gate.getD k 0 ∧ gate.getD k 0 ≤ 100000) (l : List Nat) : 0 ≤ least gate l ∧ least gate l ≤ 100000 := by
  unfold least
  generalize gate.getD (l.headD 0) 0 = n0, h (l.headD 0) = h0
  induction l generalizing n0 with
  | nil => exact h0
  | cons x r ih =>
    simp only [List.foldl_cons]
    have := h x
    exact ih _ (by omega)
theorem run_le (l : List Bool) : run l ≤ l.length := by
  unfold run
  exact (List.takeWhile_sublist _).length_le
theorem run_before : ∀ (l : List Bool) (i : Nat), i < run l → l.getD i false = true
  | [], i, h => by simp [run] at h
  | b :: l, i, h => by
    cases b with
    | false => simp [run] at h
    | true =>
      cases i with
      | zero => rfl
      | succ i =>
        have h2 : i < run l := by
          have : run (true :: l) = run l + 1 := by simp [run]
          omega
        simpa using run_before l i h2
theorem run_at : ∀ (l : List Bool), run l < l.length → l.getD (run l) false = false
  | [], h => by simp at h
  | b :: l, h => by
    cases b with
    | false => simp [run]
    | true =>
      have e : run (true :: l) = run l + 1 := by simp [run]
      rw [e] at h ⊢
      simpa using run_at l (by simpa using h)
theorem pre_facts {cx : Cx} {st : St} {L : List On} (w : Wf cx st) (r : Rel cx st L) : ∃ p : Nat, st.pre = (p : Int) ∧ (p : Int) ≤ taken L ∧ dataAt L p = none ∧ (∀ i : Nat, i < p → (dataAt L i).isSome = true) ∧ (p : Int) ≤ st.taken := by
  have h1 := run_le st.put
  have h2 := w.lp
  refine ⟨run st.put, w.pf, by rw [r.tk]; omega, ?_, fun i hi => ?_, by omega⟩
  · by_cases h : run st.put < st.put.length
    · rw [r.pt _ (by omega), if_neg (by rw [run_at _ h]; decide)]
    · exact r.po _ (.inr (by omega))
  · rw [r.pt i (by omega), if_pos (run_before _ i hi)]; rfl
theorem row_c {w : World} {m : Mp} {up : List (List Int)} {cx : Cx} {st : St} (h : RefOk w m up cx st) (k : Nat) (hk : k < cx.up.length) : ∃ ad A0 c0, m.U = some ad ∧ w.cell? (ad.add k) = some (.slice A0 (cx.up.getD k []).length c0) ∧ (cx.up.getD k []).length ≤ c0 ∧ (Kd.int .i64).C w A0 (ints (cx.up.getD k [])).length (ints (cx.up.getD k [])) := by
  have hl : k < up.length := by rw [h.uq, List.length_map]; exact hk
  obtain ⟨_, _, h3⟩ := h.u
  obtain ⟨ad, e, hr⟩ := h3 (by omega)
  obtain ⟨cs, g1, ⟨A0, c0, g2, g4, g5⟩, g3⟩ := hr k _ (List.getElem?_eq_getElem hl)
  subst g2
  have h5 := g3 0 _ rfl
  have hz : (Kd.slice 3 (Kd.int .i64)).sz = 1 := rfl
  rw [hz, Nat.mul_one, Nat.add_zero] at h5
  have eu : up[k] = ints (cx.up.getD k []) := by
    have := h.uq
    subst this
    simp [hk]
  rw [eu] at h5 g4 g5
  have el : (ints (cx.up.getD k [])).length = (cx.up.getD k []).length := by unfold ints; rw [List.length_map]
  rw [el] at h5 g4
  exact ⟨ad, A0, c0, e, h5, g4, g5⟩
/-- And a list's numbers. -/
structure VX (w0 w : World) (m : Mp) (up : List (List Int)) (cx : Cx) (st : St) (A : Option Addr) (row : List Nat) : Prop where
  v : VB w0 w m up cx st
  l : (Kd.int .i64).C w A (ints row).length (ints row)
theorem heldW {w0 w w' : World} {Q : Nat} {m : Mp} {up : List (List Int)} {cx : Cx} {st : St} {p : Addr} {v : Value} {A : Option Addr} {row : List Nat} {U' : Option Addr} (b : Below w.heap.size w w') (h : (fun w' : World => w'.cell? ⟨Q, 0, none⟩ = some (.int .i64 m.vr) ∧ w'.cell? ⟨Q, 1, none⟩ = some (.int .i64 m.wd) ∧ w'.cell? ⟨Q, 2, none⟩ = some (.int .i64 m.cp) ∧ w'.cell? ⟨Q, 3, none⟩ = some (.int .i64 m.pr) ∧ w'.cell? ⟨Q, 4, none⟩ = some (.int .u64 m.sa) ∧ w'.cell? ⟨Q, 5, none⟩ = some (.slice U' m.un m.uc) ∧ w'.cell? ⟨Q, 6, none⟩ = some (.slice m.A m.L.length m.C) ∧ w'.cell? p = some v ∧ VX w0 w' m up cx st A row) w) : (fun w' : World => w'.cell? ⟨Q, 0, none⟩ = some (.int .i64 m.vr) ∧ w'.cell? ⟨Q, 1, none⟩ = some (.int .i64 m.wd) ∧ w'.cell? ⟨Q, 2, none⟩ = some (.int .i64 m.cp) ∧ w'.cell? ⟨Q, 3, none⟩ = some (.int .i64 m.pr) ∧ w'.cell? ⟨Q, 4, none⟩ = some (.int .u64 m.sa) ∧ w'.cell? ⟨Q, 5, none⟩ = some (.slice U' m.un m.uc) ∧ w'.cell? ⟨Q, 6, none⟩ = some (.slice m.A m.L.length m.C) ∧ w'.cell? p = some v ∧ VX w0 w' m up cx st A row) w' := by
  obtain ⟨h0, h1, h2, h3, h4, h5, h6, h8, h7⟩ := h
  have go : ∀ {p : Addr} {v : Value}, w.cell? p = some v → w'.cell? p = some v := fun hp => (b.cell (World.block_lt_of_cell? _ _ hp)).trans hp
  exact ⟨go h0, go h1, go h2, go h3, go h4, go h5, go h6, go h8, ⟨h7.v.step b, Kd.C_below h7.l b⟩⟩
theorem vwOf {w0 w' : World} {Q : Nat} {m : Mp} {up : List (List Int)} {cx : Cx} {st : St} {p : Addr} {v : Value} {A : Option Addr} {row : List Nat} {U' : Option Addr} (h : w'.cell? ⟨Q, 0, none⟩ = some (.int .i64 m.vr) ∧ w'.cell? ⟨Q, 1, none⟩ = some (.int .i64 m.wd) ∧ w'.cell? ⟨Q, 2, none⟩ = some (.int .i64 m.cp) ∧ w'.cell? ⟨Q, 3, none⟩ = some (.int .i64 m.pr) ∧ w'.cell? ⟨Q, 4, none⟩ = some (.int .u64 m.sa) ∧ w'.cell? ⟨Q, 5, none⟩ = some (.slice U' m.un m.uc) ∧ w'.cell? ⟨Q, 6, none⟩ = some (.slice m.A m.L.length m.C) ∧ w'.cell? p = some v ∧ VX w0 w' m up cx st A row) : VX w0 w' m up cx st A row := h.2.2.2.2.2.2.2.2
theorem ints_len (l : List Nat) : (ints l).length = l.length := by unfold ints; rw [List.length_map]
theorem lowrow_c {w : World} {m : Mp} {up : List (List Int)} {cx : Cx} {st : St} (h : RefOk w m up cx st) {A : Option Addr} {c : Nat} {l : List Nat} (hl : l ≠ []) (hb : ∀ x ∈ l, x < cx.up.length) (hn : l.length ≤ 1000) (hc : l.length ≤ c) (hv : (Kd.int .i64).C w A (ints l).length (ints l)) : Calls Tryd.prog 114 #[.agg #[.int .i64 m.vr, .int .i64 m.wd, .int .i64 m.cp, .int .i64 m.pr, .int .u64 m.sa, .slice m.U m.un m.uc, .slice m.A m.L.length m.C], .slice A l.length c] w fun e w' => e = .returned (.int .i64 (least st.gate l)) ∧ Below w.heap.size w w' := by
  rw [← gates_least h hl hb, ← ints_len l]
  refine lowest_m w m h.mo A c (ints l) hv (by rw [ints_len]; exact hc) ?_ (by rw [ints_len]; exact hn) ?_
  · rw [ints_len]; exact List.length_pos_iff.2 hl
  · intro x hx
    obtain ⟨k, hk, rfl⟩ := List.mem_map.1 hx
    have := hb k hk
    have := h.u6
    omega
set_option maxHeartbeats 4000000 in
theorem limit_m (w : World) (m : Mp) (up : List (List Int)) (cx : Cx) (st : St) (h : RefOk w m up cx st) (k : Nat) (hk : k < cx.up.length) :
    Calls Tryd.prog 78 #[.agg #[.int .i64 m.vr, .int .i64 m.wd, .int .i64 m.cp, .int .i64 m.pr, .int .u64 m.sa, .slice m.U m.un m.uc, .slice m.A m.L.length m.C], .int .i64 (k : Int)] w fun e w' => e = .returned (.int .i64 (limit cx st k)) ∧ Below w.heap.size w w' := by
  have HV := Aside.mk (show VB w (w.alloc (.cells #[.int .i64 m.vr, .int .i64 m.wd, .int .i64 m.cp, .int .i64 m.pr, .int .u64 m.sa, .slice m.U m.un m.uc, .slice m.A m.L.length m.C] 68)) m up cx st from ⟨below_alloc (Below.refl w.heap.size w) (.cells #[.int .i64 m.vr, .int .i64 m.wd, .int .i64 m.cp, .int .i64 m.pr, .int .u64 m.sa, .slice m.U m.un m.uc, .slice m.A m.L.length m.C] 68), h.below (below_alloc (Below.refl w.heap.size w) (.cells #[.int .i64 m.vr, .int .i64 m.wd, .int .i64 m.cp, .int .i64 m.pr, .int .u64 m.sa, .slice m.U m.un m.uc, .slice m.A m.L.length m.C] 68))⟩)
  have HX := Aside.mk (heap_alloc_new w (.cells #[.int .i64 m.vr, .int .i64 m.wd, .int .i64 m.cp, .int .i64 m.pr, .int .u64 m.sa, .slice m.U m.un m.uc, .slice m.A m.L.length m.C] 68))
  have hku : k < m.un := by rw [h.un, h.uq, List.length_map]; exact hk
  have t1 : decide ((k : Int) < (m.un : Int)) = true := decide_eq_true (by omega)
  have t2 : decide (k < m.un) = true := decide_eq_true hku
  have t3 : (k : Int) < (m.un : Int) := by omega
  have HUB := Aside.mk (show ∀ x ∈ cx.up.getD k [], x < cx.up.length from fun x hx => by
    rw [List.getD_eq_getElem?_getD, List.getElem?_eq_getElem hk] at hx
    exact h.ub _ (List.getElem_mem hk) x hx)
  have HSM := Aside.mk (show (cx.up.getD k []).length ≤ 20 by
    have := h.sm.2 (ints (cx.up.getD k [])) (by
      rw [h.uq, List.getD_eq_getElem?_getD, List.getElem?_eq_getElem hk]
      exact List.mem_map.2 ⟨_, List.getElem_mem hk, rfl⟩)
    rw [ints_len] at this
    exact this)
  have HK := Aside.mk hk
  clear h hku hk
  obtain ⟨ad, A0, c0, eU, hx, hc0, hrow⟩ := row_c HV.out.r k HK.out
  have HC0 := Aside.mk (And.intro hc0 (fun W b => Kd.C_below (w1 := W) hrow b))
  have HEU := Aside.mk eU
  have HLIM := Aside.mk (show limit cx st k = if cx.up.getD k [] = [] then st.pre else least st.gate (cx.up.getD k []) from rfl)
  generalize cx.up.getD k [] = row at *
  clear hc0 hrow eU
  go_enter Tryd.func78, Tryd.ntmps78
  go_upto_region 1 with (fail)
  generalize w.alloc (.cells #[.int .i64 m.vr, .int .i64 m.wd, .int .i64 m.cp, .int .i64 m.pr, .int .u64 m.sa, .slice m.U m.un m.uc, .slice m.A m.L.length m.C] 68) = w2 at *
  generalize w.heap.size = Q at HX ⊢
  obtain ⟨e0, e1, e2, e3, e4, e5, e6⟩ := cell7 HX.out
  rw [HEU.out] at e5
  by_cases hr : row = []
  · have r1 : ((row.length : Int) == 0) = true := by rw [hr]; rfl
    rw [if_pos hr] at HLIM
    obtain ⟨p, hp1, hp2, hp3, hp4, hp5⟩ := pre_facts HV.out.r.wf HV.out.r.rel
    have HP := Aside.mk (prefix_m w2 m HV.out.r.mo p hp2 hp3 hp4 (by have := HV.out.r.tb; omega))
    rw [HEU.out] at HP
    have HPE := Aside.mk hp1
    clear hr hp1 hp2 hp3 hp4 hp5
    go_wp2_with fail
    refine HP.out.mono ?_
    rintro e w3 ⟨rfl, hb⟩
    have HB := Aside.mk (HV.out.b.trans (hb.mono HV.out.b.size))
    clear hb
    go_wp2
    go_ret
    exact ⟨by rw [HLIM.out, HPE.out]; rfl, HB.out⟩
  · have r1 : ((row.length : Int) == 0) = false := by
      rw [beq_eq_false_iff_ne]
      intro e
      exact hr (List.eq_nil_of_length_eq_zero (by omega))
    rw [if_neg hr] at HLIM
    have HNE := Aside.mk hr
    have hHD := heldW (below_drew1 (Below.refl w2.heap.size w2)) (And.intro e0 (And.intro e1 (And.intro e2 (And.intro e3 (And.intro e4 (And.intro e5 (And.intro e6 (And.intro hx (VX.mk HV.out (HC0.out.2 _ (Below.refl _ _)))))))))))
    have HLR := Aside.mk (fun W (v : VX w W m up cx st A0 row) => lowrow_c v.v.r HNE.out HUB.out (Nat.le_trans HSM.out (by decide)) HC0.out.1 v.l)
    rw [HEU.out] at HLR
    clear hr
    go_wp2_with fail
    clear HV HX hx e0 e1 e2 e3 e4 e5 e6
    go_region_held3 (fun w' => w'.cell? ⟨Q, 0, none⟩ = some (.int .i64 m.vr) ∧ w'.cell? ⟨Q, 1, none⟩ = some (.int .i64 m.wd) ∧ w'.cell? ⟨Q, 2, none⟩ = some (.int .i64 m.cp) ∧ w'.cell? ⟨Q, 3, none⟩ = some (.int .i64 m.pr) ∧ w'.cell? ⟨Q, 4, none⟩ = some (.int .u64 m.sa) ∧ w'.cell? ⟨Q, 5, none⟩ = some (.slice (some ad) m.un m.uc) ∧ w'.cell? ⟨Q, 6, none⟩ = some (.slice m.A m.L.length m.C) ∧ w'.cell? (ad.add k) = some (.slice A0 row.length c0) ∧ VX w w' m up cx st A0 row) (first | exact hHD | exact heldW (by assumption) (by assumption))
      (first | (go_at_call 114; refine (HLR.out _ (vwOf (by assumption))).mono ?_; rintro e w4 ⟨rfl, b⟩))
    have HG := Aside.mk (vwOf (by assumption))
    go_wp2
    go_ret
    exact ⟨by rw [HLIM.out]; rfl, HG.out.v.b⟩
def spF (cp gm le : Int) : Int := if cp < (if IntKind.i64.wrap (IntKind.i64.wrap (cp - gm) + le) < 0 then 0 else IntKind.i64.wrap (IntKind.i64.wrap (cp - gm) + le)) then cp else (if IntKind.i64.wrap (IntKind.i64.wrap (cp - gm) + le) < 0 then 0 else IntKind.i64.wrap (IntKind.i64.wrap (cp - gm) + le))
def inF (cp gm le : Int) : Int := if IntKind.i64.wrap (IntKind.i64.wrap (cp - gm) + le) < 0 then 0 else IntKind.i64.wrap (IntKind.i64.wrap (cp - gm) + le)
theorem spF_ok {cp gm le : Int} (h1 : wrap64 (cp - gm) = cp - gm) (h2 : wrap64 (cp - gm + le) = cp - gm + le) : spF cp gm le = min (max (cp - gm + le) 0) cp := by
  unfold spF
  rw [wrapE (cp - gm), h1, wrapE, h2]
  clear h1 h2
  split <;> split <;> omega
set_option maxHeartbeats 4000000 in
theorem space_m (w : World) (m : Mp) (up : List (List Int)) (cx : Cx) (st : St) (h : RefOk w m up cx st) :
    Calls Tryd.prog 75 #[.agg #[.int .i64 m.vr, .int .i64 m.wd, .int .i64 m.cp, .int .i64 m.pr, .int .u64 m.sa, .slice m.U m.un m.uc, .slice m.A m.L.length m.C]] w fun e w' => e = .returned (.int .i64 (space cx st)) ∧ Below w.heap.size w w' := by
  have HV := Aside.mk (show VB w (w.alloc (.cells #[.int .i64 m.vr, .int .i64 m.wd, .int .i64 m.cp, .int .i64 m.pr, .int .u64 m.sa, .slice m.U m.un m.uc, .slice m.A m.L.length m.C] 68)) m up cx st from ⟨below_alloc (Below.refl w.heap.size w) (.cells #[.int .i64 m.vr, .int .i64 m.wd, .int .i64 m.cp, .int .i64 m.pr, .int .u64 m.sa, .slice m.U m.un m.uc, .slice m.A m.L.length m.C] 68), h.below (below_alloc (Below.refl w.heap.size w) (.cells #[.int .i64 m.vr, .int .i64 m.wd, .int .i64 m.cp, .int .i64 m.pr, .int .u64 m.sa, .slice m.U m.un m.uc, .slice m.A m.L.length m.C] 68))⟩)
  have HX := Aside.mk (heap_alloc_new w (.cells #[.int .i64 m.vr, .int .i64 m.wd, .int .i64 m.cp, .int .i64 m.pr, .int .u64 m.sa, .slice m.U m.un m.uc, .slice m.A m.L.length m.C] 68))
  have HSP := Aside.mk (show space cx st = min (max (m.cp - gmax m.L + least st.gate cx.ends) 0) m.cp by unfold space; rw [h.rel.gr, h.cp])
  have HGB := Aside.mk (show 0 ≤ gmax m.L ∧ gmax m.L ≤ 100000 by rw [h.rel.gr]; exact h.rb)
  have HLB := Aside.mk (least_bd h.gb cx.ends)
  have HCB := Aside.mk (show 1 ≤ m.cp ∧ m.cp ≤ 64 by rw [h.cp]; exact h.c64)
  clear h
  go_enter Tryd.func75, Tryd.ntmps75
  go_upto_region 1 with (fail)
  generalize w.alloc (.cells #[.int .i64 m.vr, .int .i64 m.wd, .int .i64 m.cp, .int .i64 m.pr, .int .u64 m.sa, .slice m.U m.un m.uc, .slice m.A m.L.length m.C] 68) = w2 at *
  generalize w.heap.size = Q at HX ⊢
  go_wp2_with fail
  go_loopw [3, 4] (fun n x wr => ∃ i : Nat, i ≤ m.L.length ∧ n = .int .i64 (gmax (m.L.take i)) ∧ x = .int .i64 i ∧ wr = w2) (fun _ x _ => m.L.length - (intOf x).toNat)
  case atStart => exact ⟨0, Nat.zero_le _, rfl, rfl, rfl⟩
  case round =>
    obtain ⟨i, hi, rfl, rfl, rfl⟩ := hrel
    obtain ⟨e0, e1, e2, e3, e4, e5, e6⟩ := cell7 HX.out
    by_cases hlt : i < m.L.length
    · have t1 : decide ((i : Int) < (m.L.length : Int)) = true := decide_eq_true (by omega)
      have t2 : decide (i < m.L.length) = true := decide_eq_true hlt
      have t3 : (i : Int) < (m.L.length : Int) := by omega
      have HLT := Aside.mk hlt
      have ei := i1 (show i < 4611686018427387904 by have := HV.out.r.mo.n; omega)
      obtain ⟨ad, B, c, ea, a0, a1, a2, a3, a4, a5, a6, a7, a8, a9⟩ := HV.out.r.mo.o i hlt
      rw [ea] at e6
      have HTK := Aside.mk (gmax_take hlt)
      have HEA := Aside.mk ea
      generalize m.L[i] = x at *
      generalize gmax (m.L.take i) = tk at *
      clear hlt hi a8 a9 ea
      by_cases hk : x.e.kind = 4
      · have k1 : (x.e.kind == 4) = true := by rw [hk]; rfl
        rw [if_pos hk] at HTK
        clear hk
        go_wp2_with fail
        go_roundw
        case rel => exact ⟨i + 1, HLT.out, by rw [HTK.out]; exact congrArg (Value.int .i64) (by split <;> omega), by first | rfl | simp, by first | rfl | trivial⟩
        case measure =>
          simp only [intOf, tn1, Int.toNat_natCast]
          exact meas1 HLT.out
      · have k1 : (x.e.kind == 4) = false := beq_eq_false_iff_ne.2 hk
        rw [if_neg hk] at HTK
        clear hk
        go_wp2_with fail
        go_roundw
        case rel => exact ⟨i + 1, HLT.out, by rw [HTK.out], by first | rfl | simp, by first | rfl | trivial⟩
        case measure =>
          simp only [intOf, tn1, Int.toNat_natCast]
          exact meas1 HLT.out
    · obtain rfl : i = m.L.length := by omega
      rw [List.take_length] at *
      have t1 : decide ((m.L.length : Int) < (m.L.length : Int)) = false := decide_eq_false (by omega)
      have t2 : decide (m.L.length < m.L.length) = false := decide_eq_false (by omega)
      have hHD := heldV (below_drew1 (Below.refl wr.heap.size wr)) (And.intro e0 (And.intro e1 (And.intro e2 (And.intro e3 (And.intro e4 (And.intro e5 (And.intro e6 HV.out)))))))
      have ea := w64 (show -4611686018427387904 ≤ m.cp - gmax m.L ∧ m.cp - gmax m.L ≤ 4611686018427387904 by have := HGB.out; have := HCB.out; omega)
      have eb := w64 (show -4611686018427387904 ≤ m.cp - gmax m.L + least st.gate cx.ends ∧ m.cp - gmax m.L + least st.gate cx.ends ≤ 4611686018427387904 by have := HGB.out; have := HCB.out; have := HLB.out; omega)
      generalize gmax m.L = gm at *
      clear hi hlt
      go_wp2_with fail
      clear HX e0 e1 e2 e3 e4 e5 e6
      go_region_held3 (fun w' => w'.cell? ⟨Q, 0, none⟩ = some (.int .i64 m.vr) ∧ w'.cell? ⟨Q, 1, none⟩ = some (.int .i64 m.wd) ∧ w'.cell? ⟨Q, 2, none⟩ = some (.int .i64 m.cp) ∧ w'.cell? ⟨Q, 3, none⟩ = some (.int .i64 m.pr) ∧ w'.cell? ⟨Q, 4, none⟩ = some (.int .u64 m.sa) ∧ w'.cell? ⟨Q, 5, none⟩ = some (.slice m.U m.un m.uc) ∧ w'.cell? ⟨Q, 6, none⟩ = some (.slice m.A m.L.length m.C) ∧ VB w w' m up cx st) (first | exact hHD | exact heldV (by assumption) (by assumption))
        (first | (go_at_call 74; refine (least_m _ m up cx st (vbOf (by assumption)).r).mono ?_; rintro e w4 ⟨rfl, b⟩))
      have HG := Aside.mk (vbOf (by assumption))
      have HE := Aside.mk (spF_ok ea eb)
      clear ea eb
      rw [show (if m.cp < (if IntKind.i64.wrap (IntKind.i64.wrap (m.cp - gm) + least st.gate cx.ends) < 0 then 0 else IntKind.i64.wrap (IntKind.i64.wrap (m.cp - gm) + least st.gate cx.ends)) then m.cp else (if IntKind.i64.wrap (IntKind.i64.wrap (m.cp - gm) + least st.gate cx.ends) < 0 then 0 else IntKind.i64.wrap (IntKind.i64.wrap (m.cp - gm) + least st.gate cx.ends))) = spF m.cp gm (least st.gate cx.ends) from rfl, show (if IntKind.i64.wrap (IntKind.i64.wrap (m.cp - gm) + least st.gate cx.ends) < 0 then 0 else IntKind.i64.wrap (IntKind.i64.wrap (m.cp - gm) + least st.gate cx.ends)) = inF m.cp gm (least st.gate cx.ends) from rfl]
      generalize hsf : spF m.cp gm (least st.gate cx.ends) = sf at *
      generalize inF m.cp gm (least st.gate cx.ends) = sg at *
      go_wp2
      go_ret
      exact ⟨by rw [HSP.out, ← HE.out]; rfl, HG.out.b⟩
end Go.Proofs.YtnnfcdffnckoiaaDoor.Mo
/- The document's model: what is wrong with a producer's event. -/
set_option linter.unusedVariables false
set_option linter.unusedSimpArgs false
set_option maxRecDepth 100000
namespace Go.Proofs.YtnnfcdffnckoiaaDoor.Mo
open Go.RowKit Go.Proofs.YtnnfcdffnckoiaaDoorW.PrintWords Go.Proofs.YtnnfcdffnckoiaaDoorW.PrintLast Go.Proofs.YtnnfcdffnckoiaaDoorW.PrintMore
theorem heldE {w0 w w' : World} {Q R : Nat} {m : Mp} {e : Ev} {kd : Int} {B : Option Addr} {c : Nat} {up : List (List Int)} {cx : Cx} {st : St} (b : Below w.heap.size w w') (hh : (fun w' : World => w'.cell? ⟨Q, 0, none⟩ = some (.int .i64 m.vr) ∧ w'.cell? ⟨Q, 1, none⟩ = some (.int .i64 m.wd) ∧ w'.cell? ⟨Q, 2, none⟩ = some (.int .i64 m.cp) ∧ w'.cell? ⟨Q, 3, none⟩ = some (.int .i64 m.pr) ∧ w'.cell? ⟨Q, 4, none⟩ = some (.int .u64 m.sa) ∧ w'.cell? ⟨Q, 5, none⟩ = some (.slice m.U m.un m.uc) ∧ w'.cell? ⟨Q, 6, none⟩ = some (.slice m.A m.L.length m.C) ∧ w'.cell? ⟨R, 0, none⟩ = some (.int .i64 kd) ∧ w'.cell? ⟨R, 1, none⟩ = some (.int .i64 e.thread) ∧ w'.cell? ⟨R, 2, none⟩ = some (.int .i64 e.op) ∧ w'.cell? ⟨R, 3, none⟩ = some (.int .i64 e.n) ∧ w'.cell? ⟨R, 4, none⟩ = some (.int .u64 e.pos) ∧ w'.cell? ⟨R, 5, none⟩ = some (.int .i64 e.code) ∧ w'.cell? ⟨R, 6, none⟩ = some (.slice B e.data.length c) ∧ VB w0 w' m up cx st) w) : (fun w' : World => w'.cell? ⟨Q, 0, none⟩ = some (.int .i64 m.vr) ∧ w'.cell? ⟨Q, 1, none⟩ = some (.int .i64 m.wd) ∧ w'.cell? ⟨Q, 2, none⟩ = some (.int .i64 m.cp) ∧ w'.cell? ⟨Q, 3, none⟩ = some (.int .i64 m.pr) ∧ w'.cell? ⟨Q, 4, none⟩ = some (.int .u64 m.sa) ∧ w'.cell? ⟨Q, 5, none⟩ = some (.slice m.U m.un m.uc) ∧ w'.cell? ⟨Q, 6, none⟩ = some (.slice m.A m.L.length m.C) ∧ w'.cell? ⟨R, 0, none⟩ = some (.int .i64 kd) ∧ w'.cell? ⟨R, 1, none⟩ = some (.int .i64 e.thread) ∧ w'.cell? ⟨R, 2, none⟩ = some (.int .i64 e.op) ∧ w'.cell? ⟨R, 3, none⟩ = some (.int .i64 e.n) ∧ w'.cell? ⟨R, 4, none⟩ = some (.int .u64 e.pos) ∧ w'.cell? ⟨R, 5, none⟩ = some (.int .i64 e.code) ∧ w'.cell? ⟨R, 6, none⟩ = some (.slice B e.data.length c) ∧ VB w0 w' m up cx st) w' := by
  obtain ⟨x0, x1, x2, x3, x4, x5, x6, y0, y1, y2, y3, y4, y5, y6, hv⟩ := hh
  have go : ∀ {p : Addr} {v : Value}, w.cell? p = some v → w'.cell? p = some v := fun hp => (b.cell (World.block_lt_of_cell? _ _ hp)).trans hp
  exact ⟨go x0, go x1, go x2, go x3, go x4, go x5, go x6, go y0, go y1, go y2, go y3, go y4, go y5, go y6, hv.step b⟩
theorem heldH {w0 w w' : World} {Q R H : Nat} {m : Mp} {e : Ev} {kd : Int} {B : Option Addr} {c : Nat} {up : List (List Int)} {cx : Cx} {st : St} {h : Hd} (b : Below w.heap.size w w') (hh : (fun w' : World => w'.cell? ⟨Q, 0, none⟩ = some (.int .i64 m.vr) ∧ w'.cell? ⟨Q, 1, none⟩ = some (.int .i64 m.wd) ∧ w'.cell? ⟨Q, 2, none⟩ = some (.int .i64 m.cp) ∧ w'.cell? ⟨Q, 3, none⟩ = some (.int .i64 m.pr) ∧ w'.cell? ⟨Q, 4, none⟩ = some (.int .u64 m.sa) ∧ w'.cell? ⟨Q, 5, none⟩ = some (.slice m.U m.un m.uc) ∧ w'.cell? ⟨Q, 6, none⟩ = some (.slice m.A m.L.length m.C) ∧ w'.cell? ⟨R, 0, none⟩ = some (.int .i64 kd) ∧ w'.cell? ⟨R, 1, none⟩ = some (.int .i64 e.thread) ∧ w'.cell? ⟨R, 2, none⟩ = some (.int .i64 e.op) ∧ w'.cell? ⟨R, 3, none⟩ = some (.int .i64 e.n) ∧ w'.cell? ⟨R, 4, none⟩ = some (.int .u64 e.pos) ∧ w'.cell? ⟨R, 5, none⟩ = some (.int .i64 e.code) ∧ w'.cell? ⟨R, 6, none⟩ = some (.slice B e.data.length c) ∧ w'.cell? ⟨H, 0, none⟩ = some (.int .i64 h.f) ∧ w'.cell? ⟨H, 1, none⟩ = some (.int .i64 h.n) ∧ w'.cell? ⟨H, 2, none⟩ = some (.int .i64 h.p) ∧ w'.cell? ⟨H, 3, none⟩ = some (.bool h.g) ∧ VB w0 w' m up cx st) w) : (fun w' : World => w'.cell? ⟨Q, 0, none⟩ = some (.int .i64 m.vr) ∧ w'.cell? ⟨Q, 1, none⟩ = some (.int .i64 m.wd) ∧ w'.cell? ⟨Q, 2, none⟩ = some (.int .i64 m.cp) ∧ w'.cell? ⟨Q, 3, none⟩ = some (.int .i64 m.pr) ∧ w'.cell? ⟨Q, 4, none⟩ = some (.int .u64 m.sa) ∧ w'.cell? ⟨Q, 5, none⟩ = some (.slice m.U m.un m.uc) ∧ w'.cell? ⟨Q, 6, none⟩ = some (.slice m.A m.L.length m.C) ∧ w'.cell? ⟨R, 0, none⟩ = some (.int .i64 kd) ∧ w'.cell? ⟨R, 1, none⟩ = some (.int .i64 e.thread) ∧ w'.cell? ⟨R, 2, none⟩ = some (.int .i64 e.op) ∧ w'.cell? ⟨R, 3, none⟩ = some (.int .i64 e.n) ∧ w'.cell? ⟨R, 4, none⟩ = some (.int .u64 e.pos) ∧ w'.cell? ⟨R, 5, none⟩ = some (.int .i64 e.code) ∧ w'.cell? ⟨R, 6, none⟩ = some (.slice B e.data.length c) ∧ w'.cell? ⟨H, 0, none⟩ = some (.int .i64 h.f) ∧ w'.cell? ⟨H, 1, none⟩ = some (.int .i64 h.n) ∧ w'.cell? ⟨H, 2, none⟩ = some (.int .i64 h.p) ∧ w'.cell? ⟨H, 3, none⟩ = some (.bool h.g) ∧ VB w0 w' m up cx st) w' := by
  obtain ⟨x0, x1, x2, x3, x4, x5, x6, y0, y1, y2, y3, y4, y5, y6, z0, z1, z2, z3, hv⟩ := hh
  have go : ∀ {p : Addr} {v : Value}, w.cell? p = some v → w'.cell? p = some v := fun hp => (b.cell (World.block_lt_of_cell? _ _ hp)).trans hp
  exact ⟨go x0, go x1, go x2, go x3, go x4, go x5, go x6, go y0, go y1, go y2, go y3, go y4, go y5, go y6, go z0, go z1, go z2, go z3, hv.step b⟩
theorem heldHOf {w0 w' : World} {Q R H : Nat} {m : Mp} {e : Ev} {kd : Int} {B : Option Addr} {c : Nat} {up : List (List Int)} {cx : Cx} {st : St} {h : Hd} (hh : w'.cell? ⟨Q, 0, none⟩ = some (.int .i64 m.vr) ∧ w'.cell? ⟨Q, 1, none⟩ = some (.int .i64 m.wd) ∧ w'.cell? ⟨Q, 2, none⟩ = some (.int .i64 m.cp) ∧ w'.cell? ⟨Q, 3, none⟩ = some (.int .i64 m.pr) ∧ w'.cell? ⟨Q, 4, none⟩ = some (.int .u64 m.sa) ∧ w'.cell? ⟨Q, 5, none⟩ = some (.slice m.U m.un m.uc) ∧ w'.cell? ⟨Q, 6, none⟩ = some (.slice m.A m.L.length m.C) ∧ w'.cell? ⟨R, 0, none⟩ = some (.int .i64 kd) ∧ w'.cell? ⟨R, 1, none⟩ = some (.int .i64 e.thread) ∧ w'.cell? ⟨R, 2, none⟩ = some (.int .i64 e.op) ∧ w'.cell? ⟨R, 3, none⟩ = some (.int .i64 e.n) ∧ w'.cell? ⟨R, 4, none⟩ = some (.int .u64 e.pos) ∧ w'.cell? ⟨R, 5, none⟩ = some (.int .i64 e.code) ∧ w'.cell? ⟨R, 6, none⟩ = some (.slice B e.data.length c) ∧ w'.cell? ⟨H, 0, none⟩ = some (.int .i64 h.f) ∧ w'.cell? ⟨H, 1, none⟩ = some (.int .i64 h.n) ∧ w'.cell? ⟨H, 2, none⟩ = some (.int .i64 h.p) ∧ w'.cell? ⟨H, 3, none⟩ = some (.bool h.g) ∧ VB w0 w' m up cx st) : VB w0 w' m up cx st := by
  obtain ⟨x0, x1, x2, x3, x4, x5, x6, y0, y1, y2, y3, y4, y5, y6, z0, z1, z2, z3, hv⟩ := hh
  exact hv
theorem two {w : World} (a b : Obj) : ((w.alloc a).alloc b).heap[w.heap.size]? = some a ∧ ((w.alloc a).alloc b).heap[w.heap.size + 1]? = some b ∧ Below w.heap.size w ((w.alloc a).alloc b) := by
  have h1 := heap_alloc_new w a
  have h2 := heap_alloc_new (w.alloc a) b
  rw [World.size_alloc] at h2
  exact ⟨blk_alloc h1 _, h2, below_alloc (below_alloc (Below.refl _ _) _) _⟩
theorem count_c {w : World} {m : Mp} {up : List (List Int)} {cx : Cx} {st : St} (h : RefOk w m up cx st) {p : Int} (hp : U64 p) : Calls Tryd.prog 38 #[.agg #[.int .i64 m.vr, .int .i64 m.wd, .int .i64 m.cp, .int .i64 m.pr, .int .u64 m.sa, .slice m.U m.un m.uc, .slice m.A m.L.length m.C], .int .u64 p] w fun e w' => e = .returned (.int .i64 (cx.cnt st.taken p)) ∧ Below w.heap.size w w' := by
  rw [h.ct, ← h.rel.tk]
  exact count_m w m h.mo up h.u h.un h.uc h.us p hp
theorem taken_c {w : World} {m : Mp} {up : List (List Int)} {cx : Cx} {st : St} (h : RefOk w m up cx st) : Calls Tryd.prog 72 #[.agg #[.int .i64 m.vr, .int .i64 m.wd, .int .i64 m.cp, .int .i64 m.pr, .int .u64 m.sa, .slice m.U m.un m.uc, .slice m.A m.L.length m.C]] w fun e w' => e = .returned (.int .i64 st.taken) ∧ Below w.heap.size w w' := by
  rw [← h.rel.tk]
  exact taken_m w m h.mo
theorem holds_c {w : World} {m : Mp} {up : List (List Int)} {cx : Cx} {st : St} (h : RefOk w m up cx st) {t : Int} (ht : 0 ≤ t ∧ t < cx.prod) : Calls Tryd.prog 71 #[.agg #[.int .i64 m.vr, .int .i64 m.wd, .int .i64 m.cp, .int .i64 m.pr, .int .u64 m.sa, .slice m.U m.un m.uc, .slice m.A m.L.length m.C], .int .i64 t] w fun e w' => e = .returned (.agg #[.int .i64 (held st t.toNat).f, .int .i64 (held st t.toNat).n, .int .i64 (held st t.toNat).p, .bool (held st t.toNat).g]) ∧ Below w.heap.size w w' := by
  have := holds_m w m h.mo t (h.hs t)
  have e : holds m.L t = held st t.toNat := by
    have h2 := h.rel.hl t.toNat (by omega)
    rw [Int.toNat_of_nonneg ht.1] at h2
    exact h2
  rw [e] at this
  exact this
/-- What is held has small numbers. -/
theorem held_bd {w : World} {m : Mp} {up : List (List Int)} {cx : Cx} {st : St} (h : RefOk w m up cx st) {t : Nat} (ht : t < cx.prod) : 0 ≤ (held st t).f ∧ (held st t).f ≤ 100000 ∧ 0 ≤ (held st t).n ∧ (held st t).n ≤ 64 ∧ 0 ≤ (held st t).p ∧ (held st t).p ≤ 64 ∧ (isZ (held st t) = decide ((held st t).n = 0)) := by
  have h1 := h.tb
  have h2 := h.c64
  rcases h.wf.hw t ht with h3 | ⟨g1, g2, g3, g4, g5, g6, _⟩
  · rw [h3]; exact ⟨by decide, by decide, by decide, by decide, by decide, by decide, by decide⟩
  · refine ⟨g3, by omega, by omega, by omega, g5, by omega, ?_⟩
    have e : decide ((held st t).n = 0) = false := decide_eq_false (by omega)
    unfold isZ
    rw [e]
    simp
theorem code3 {cx : Cx} {st : St} {e : Ev} {h : Hd} (hk : e.kind = 3) (ht : 0 ≤ e.thread ∧ e.thread < cx.prod) (hh : held st e.thread.toNat = h) : code cx st e = if isZ h = false then 14 else if e.n < 1 ∨ e.n > cx.cap then 13 else if cx.cnt st.taken e.pos ≠ st.taken then 16 else 0 := by
  unfold code takeC
  rw [if_pos hk, if_neg (fun h => h ht), hh]
theorem code4 {cx : Cx} {st : St} {e : Ev} {h : Hd} (hk : e.kind = 4) (ht : 0 ≤ e.thread ∧ e.thread < cx.prod) (hh : held st e.thread.toNat = h) : code cx st e = if h.n = 0 ∨ h.g = true then 14 else if h.f + h.n - least st.gate cx.ends > cx.cap then 17 else 0 := by
  unfold code grantC
  rw [if_neg (by omega), if_pos hk, if_neg (fun h => h ht), hh]
theorem code5 {cx : Cx} {st : St} {e : Ev} {h : Hd} (hk : e.kind = 5) (ht : 0 ≤ e.thread ∧ e.thread < cx.prod) (hh : held st e.thread.toNat = h) : code cx st e = if h.g = false then 14 else if e.n < 1 ∨ e.n > h.n - h.p then 13 else if cx.cnt st.taken e.pos ≠ h.f + h.p then 18 else if (e.data.length : Int) ≠ e.n then 19 else 0 := by
  unfold code putsC
  rw [if_neg (by omega), if_neg (by omega), if_pos hk, if_neg (fun h => h ht), hh]
set_option maxHeartbeats 8000000 in
theorem prod_m (w : World) (m : Mp) (up : List (List Int)) (cx : Cx) (st : St) (hr : RefOk w m up cx st) (e : Ev) (B : Option Addr) (c : Nat) (he : U64 e.pos) (hd : e.data.length ≤ 100000) (hk : e.kind = 3 ∨ e.kind = 4 ∨ e.kind = 5) :
    Calls Tryd.prog 112 #[.agg #[.int .i64 m.vr, .int .i64 m.wd, .int .i64 m.cp, .int .i64 m.pr, .int .u64 m.sa, .slice m.U m.un m.uc, .slice m.A m.L.length m.C], .agg #[.int .i64 e.kind, .int .i64 e.thread, .int .i64 e.op, .int .i64 e.n, .int .u64 e.pos, .int .i64 e.code, .slice B e.data.length c]] w fun r w' => r = .returned (.int .i64 (code cx st e)) ∧ Below w.heap.size w w' := by
  have HV := Aside.mk (show VB w ((w.alloc (.cells #[.int .i64 m.vr, .int .i64 m.wd, .int .i64 m.cp, .int .i64 m.pr, .int .u64 m.sa, .slice m.U m.un m.uc, .slice m.A m.L.length m.C] 68)).alloc (.cells #[.int .i64 e.kind, .int .i64 e.thread, .int .i64 e.op, .int .i64 e.n, .int .u64 e.pos, .int .i64 e.code, .slice B e.data.length c] 44)) m up cx st from ⟨(two (.cells #[.int .i64 m.vr, .int .i64 m.wd, .int .i64 m.cp, .int .i64 m.pr, .int .u64 m.sa, .slice m.U m.un m.uc, .slice m.A m.L.length m.C] 68) (.cells #[.int .i64 e.kind, .int .i64 e.thread, .int .i64 e.op, .int .i64 e.n, .int .u64 e.pos, .int .i64 e.code, .slice B e.data.length c] 44)).2.2, hr.below (two (.cells #[.int .i64 m.vr, .int .i64 m.wd, .int .i64 m.cp, .int .i64 m.pr, .int .u64 m.sa, .slice m.U m.un m.uc, .slice m.A m.L.length m.C] 68) (.cells #[.int .i64 e.kind, .int .i64 e.thread, .int .i64 e.op, .int .i64 e.n, .int .u64 e.pos, .int .i64 e.code, .slice B e.data.length c] 44)).2.2⟩)
  have HX := Aside.mk (two (w := w) (.cells #[.int .i64 m.vr, .int .i64 m.wd, .int .i64 m.cp, .int .i64 m.pr, .int .u64 m.sa, .slice m.U m.un m.uc, .slice m.A m.L.length m.C] 68) (.cells #[.int .i64 e.kind, .int .i64 e.thread, .int .i64 e.op, .int .i64 e.n, .int .u64 e.pos, .int .i64 e.code, .slice B e.data.length c] 44)).1
  have HY := Aside.mk (two (w := w) (.cells #[.int .i64 m.vr, .int .i64 m.wd, .int .i64 m.cp, .int .i64 m.pr, .int .u64 m.sa, .slice m.U m.un m.uc, .slice m.A m.L.length m.C] 68) (.cells #[.int .i64 e.kind, .int .i64 e.thread, .int .i64 e.op, .int .i64 e.n, .int .u64 e.pos, .int .i64 e.code, .slice B e.data.length c] 44)).2.1
  have HK := Aside.mk hk
  have HE := Aside.mk he
  have HD := Aside.mk hd
  clear hr hk he hd
  go_enter Tryd.func112, Tryd.ntmps112
  go_upto_region 1 with (fail)
  generalize (w.alloc (.cells #[.int .i64 m.vr, .int .i64 m.wd, .int .i64 m.cp, .int .i64 m.pr, .int .u64 m.sa, .slice m.U m.un m.uc, .slice m.A m.L.length m.C] 68)).alloc (.cells #[.int .i64 e.kind, .int .i64 e.thread, .int .i64 e.op, .int .i64 e.n, .int .u64 e.pos, .int .i64 e.code, .slice B e.data.length c] 44) = w2 at *
  generalize hq : w.heap.size = Q at HX HY ⊢
  clear hq
  obtain ⟨x0, x1, x2, x3, x4, x5, x6⟩ := cell7 HX.out
  obtain ⟨y0, y1, y2, y3, y4, y5, y6⟩ := cell7 HY.out
  by_cases ht : 0 ≤ e.thread ∧ e.thread < cx.prod
  · have t1 : decide (e.thread < 0) = false := decide_eq_false (by omega)
    have t2 : decide (m.pr ≤ e.thread) = false := decide_eq_false (by rw [HV.out.r.pr]; omega)
    have hh0 := heldE (Below.refl _ _) (And.intro x0 (And.intro x1 (And.intro x2 (And.intro x3 (And.intro x4 (And.intro x5 (And.intro x6 (And.intro y0 (And.intro y1 (And.intro y2 (And.intro y3 (And.intro y4 (And.intro y5 (And.intro y6 HV.out))))))))))))))
    have HT := Aside.mk ht
    have HBD := Aside.mk (held_bd HV.out.r (t := e.thread.toNat) (by omega))
    clear ht
    go_wp2_with fail
    refine (holds_c HV.out.r HT.out).mono ?_
    rintro r w3 ⟨rfl, hb⟩
    have HHD := Aside.mk (show held st e.thread.toNat = held st e.thread.toNat from rfl)
    generalize hh : held st e.thread.toNat = h at *
    have hh3 := heldE (hb.trans ((below_alloc (Below.refl w3.heap.size w3) (.cells #[.int .i64 h.f, .int .i64 h.n, .int .i64 h.p, .bool h.g] 103)).mono hb.size)) hh0
    have HHE := Aside.mk hh
    clear hh hh0 HX HY x0 x1 x2 x3 x4 x5 x6 y0 y1 y2 y3 y4 y5 y6 HV hb HHD
    have HH := Aside.mk (heap_alloc_new w3 (.cells #[.int .i64 h.f, .int .i64 h.n, .int .i64 h.p, .bool h.g] 103))
    go_upto_region 4 with (fail)
    generalize w3.alloc (.cells #[.int .i64 h.f, .int .i64 h.n, .int .i64 h.p, .bool h.g] 103) = w4 at *
    generalize w3.heap.size = H at *
    obtain ⟨x0, x1, x2, x3, x4, x5, x6, y0, y1, y2, y3, y4, y5, y6, HV⟩ := hh3
    replace HV := Aside.mk HV
    obtain ⟨z0, z1, z2, z3⟩ := cell4 HH.out
    clear HH
    have HCP := Aside.mk (show m.cp = cx.cap from HV.out.r.cp)
    rcases HK.out with hk | hk | hk
    · have k3 : (e.kind == 3) = true := by rw [hk]; rfl
      have k4 : (e.kind == 4) = false := by rw [hk]; rfl
      have k5 : (e.kind == 5) = false := by rw [hk]; rfl
      have HC := Aside.mk (code3 hk HT.out HHE.out)
      rw [hk] at y0
      have HHD := Aside.mk (heldH (below_drew1 (Below.refl _ _)) (And.intro x0 (And.intro x1 (And.intro x2 (And.intro x3 (And.intro x4 (And.intro x5 (And.intro x6 (And.intro y0 (And.intro y1 (And.intro y2 (And.intro y3 (And.intro y4 (And.intro y5 (And.intro y6 (And.intro z0 (And.intro z1 (And.intro z2 (And.intro z3 HV.out)))))))))))))))))))
      clear hk
      by_cases c1 : 0 < h.n
      · have u1 : decide (0 < h.n) = true := decide_eq_true c1
        rw [if_pos (by rw [HBD.out.2.2.2.2.2.2]; exact decide_eq_false (by omega))] at HC
        clear c1
        go_wp2
        go_ret
        exact ⟨by rw [HC.out]; rfl, HV.out.b⟩
      have u1 : decide (0 < h.n) = false := decide_eq_false c1
      rw [if_neg (by rw [HBD.out.2.2.2.2.2.2, decide_eq_true (by have := HBD.out; omega)]; decide)] at HC
      clear c1
      by_cases c2 : e.n < 1
      · have u2 : decide (e.n < 1) = true := decide_eq_true c2
        rw [if_pos (.inl c2)] at HC
        clear c2
        go_wp2
        go_ret
        exact ⟨by rw [HC.out]; rfl, HV.out.b⟩
      have u2 : decide (e.n < 1) = false := decide_eq_false c2
      by_cases c3 : e.n > cx.cap
      · have u3 : decide (m.cp < e.n) = true := decide_eq_true (by rw [HCP.out]; exact c3)
        rw [if_pos (.inr c3)] at HC
        clear c2 c3
        go_wp2
        go_ret
        exact ⟨by rw [HC.out]; rfl, HV.out.b⟩
      have u3 : decide (m.cp < e.n) = false := decide_eq_false (by rw [HCP.out]; exact c3)
      rw [if_neg (by omega)] at HC
      clear c2 c3
      by_cases c4 : cx.cnt st.taken e.pos = st.taken
      · have u4 : (cx.cnt st.taken e.pos != st.taken) = false := by rw [c4]; simp
        rw [if_neg (by simpa using c4)] at HC
        clear c4
        have hHD := HHD.out
        go_wp2_with fail
        go_region_held3 (fun w' => w'.cell? ⟨Q, 0, none⟩ = some (.int .i64 m.vr) ∧ w'.cell? ⟨Q, 1, none⟩ = some (.int .i64 m.wd) ∧ w'.cell? ⟨Q, 2, none⟩ = some (.int .i64 m.cp) ∧ w'.cell? ⟨Q, 3, none⟩ = some (.int .i64 m.pr) ∧ w'.cell? ⟨Q, 4, none⟩ = some (.int .u64 m.sa) ∧ w'.cell? ⟨Q, 5, none⟩ = some (.slice m.U m.un m.uc) ∧ w'.cell? ⟨Q, 6, none⟩ = some (.slice m.A m.L.length m.C) ∧ w'.cell? ⟨Q + 1, 0, none⟩ = some (.int .i64 3) ∧ w'.cell? ⟨Q + 1, 1, none⟩ = some (.int .i64 e.thread) ∧ w'.cell? ⟨Q + 1, 2, none⟩ = some (.int .i64 e.op) ∧ w'.cell? ⟨Q + 1, 3, none⟩ = some (.int .i64 e.n) ∧ w'.cell? ⟨Q + 1, 4, none⟩ = some (.int .u64 e.pos) ∧ w'.cell? ⟨Q + 1, 5, none⟩ = some (.int .i64 e.code) ∧ w'.cell? ⟨Q + 1, 6, none⟩ = some (.slice B e.data.length c) ∧ w'.cell? ⟨H, 0, none⟩ = some (.int .i64 h.f) ∧ w'.cell? ⟨H, 1, none⟩ = some (.int .i64 h.n) ∧ w'.cell? ⟨H, 2, none⟩ = some (.int .i64 h.p) ∧ w'.cell? ⟨H, 3, none⟩ = some (.bool h.g) ∧ VB w w' m up cx st) (first | exact hHD | exact hHE | exact heldH (by assumption) (by assumption)) (first | (go_at_call 38; refine (count_c (heldHOf (by assumption)).r HE.out).mono ?_; rintro r w7 ⟨rfl, b⟩) | (go_at_call 72; refine (taken_c (heldHOf (by assumption)).r).mono ?_; rintro r w7 ⟨rfl, b⟩) | (go_at_call 74; refine (least_m _ m up cx st (heldHOf (by assumption)).r).mono ?_; rintro r w7 ⟨rfl, b⟩))
        clear hHD
        obtain ⟨x0, x1, x2, x3, x4, x5, x6, y0, y1, y2, y3, y4, y5, y6, z0, z1, z2, z3, HV⟩ := heldH (Below.refl _ _) (by assumption)
        replace HV := Aside.mk HV
        go_wp2_with fail
        go_region
        all_goals
          go_wp2_with fail
          go_region
          all_goals
            go_wp2
            go_ret
            exact ⟨by rw [HC.out]; rfl, (below_drew1 (below_drew1 HV.out.b))⟩
      · have u4 : (cx.cnt st.taken e.pos != st.taken) = true := by simpa using c4
        rw [if_pos c4] at HC
        clear c4
        have hHD := HHD.out
        go_wp2_with fail
        go_region_held3 (fun w' => w'.cell? ⟨Q, 0, none⟩ = some (.int .i64 m.vr) ∧ w'.cell? ⟨Q, 1, none⟩ = some (.int .i64 m.wd) ∧ w'.cell? ⟨Q, 2, none⟩ = some (.int .i64 m.cp) ∧ w'.cell? ⟨Q, 3, none⟩ = some (.int .i64 m.pr) ∧ w'.cell? ⟨Q, 4, none⟩ = some (.int .u64 m.sa) ∧ w'.cell? ⟨Q, 5, none⟩ = some (.slice m.U m.un m.uc) ∧ w'.cell? ⟨Q, 6, none⟩ = some (.slice m.A m.L.length m.C) ∧ w'.cell? ⟨Q + 1, 0, none⟩ = some (.int .i64 3) ∧ w'.cell? ⟨Q + 1, 1, none⟩ = some (.int .i64 e.thread) ∧ w'.cell? ⟨Q + 1, 2, none⟩ = some (.int .i64 e.op) ∧ w'.cell? ⟨Q + 1, 3, none⟩ = some (.int .i64 e.n) ∧ w'.cell? ⟨Q + 1, 4, none⟩ = some (.int .u64 e.pos) ∧ w'.cell? ⟨Q + 1, 5, none⟩ = some (.int .i64 e.code) ∧ w'.cell? ⟨Q + 1, 6, none⟩ = some (.slice B e.data.length c) ∧ w'.cell? ⟨H, 0, none⟩ = some (.int .i64 h.f) ∧ w'.cell? ⟨H, 1, none⟩ = some (.int .i64 h.n) ∧ w'.cell? ⟨H, 2, none⟩ = some (.int .i64 h.p) ∧ w'.cell? ⟨H, 3, none⟩ = some (.bool h.g) ∧ VB w w' m up cx st) (first | exact hHD | exact hHE | exact heldH (by assumption) (by assumption)) (first | (go_at_call 38; refine (count_c (heldHOf (by assumption)).r HE.out).mono ?_; rintro r w7 ⟨rfl, b⟩) | (go_at_call 72; refine (taken_c (heldHOf (by assumption)).r).mono ?_; rintro r w7 ⟨rfl, b⟩) | (go_at_call 74; refine (least_m _ m up cx st (heldHOf (by assumption)).r).mono ?_; rintro r w7 ⟨rfl, b⟩))
        have HG := Aside.mk (heldHOf (by assumption))
        go_wp2
        go_ret
        exact ⟨by rw [HC.out]; rfl, HG.out.b⟩
    · have k3 : (e.kind == 3) = false := by rw [hk]; rfl
      have k4 : (e.kind == 4) = true := by rw [hk]; rfl
      have k5 : (e.kind == 5) = false := by rw [hk]; rfl
      have HC := Aside.mk (code4 hk HT.out HHE.out)
      rw [hk] at y0
      have HHD := Aside.mk (heldH (below_drew1 (Below.refl _ _)) (And.intro x0 (And.intro x1 (And.intro x2 (And.intro x3 (And.intro x4 (And.intro x5 (And.intro x6 (And.intro y0 (And.intro y1 (And.intro y2 (And.intro y3 (And.intro y4 (And.intro y5 (And.intro y6 (And.intro z0 (And.intro z1 (And.intro z2 (And.intro z3 HV.out)))))))))))))))))))
      clear hk
      by_cases c1 : h.n = 0
      · have u1 : (h.n == 0) = true := by rw [c1]; rfl
        rw [if_pos (.inl c1)] at HC
        clear c1
        go_wp2
        go_ret
        exact ⟨by rw [HC.out]; rfl, HV.out.b⟩
      have u1 : (h.n == 0) = false := beq_eq_false_iff_ne.2 c1
      by_cases c2 : h.g = true
      · rw [if_pos (.inr c2)] at HC
        clear c1
        go_wp2
        go_ret
        exact ⟨by rw [HC.out]; rfl, HV.out.b⟩
      have u2 : h.g = false := by simpa using c2
      rw [if_neg (fun h => h.elim c1 c2)] at HC
      clear c1 c2
      have HLB := Aside.mk (least_bd HV.out.r.gb cx.ends)
      have e1 := (wrapE _).trans (w64 (show -4611686018427387904 ≤ h.f + h.n ∧ h.f + h.n ≤ 4611686018427387904 by have := HBD.out; omega))
      have e2 := (wrapE _).trans (w64 (show -4611686018427387904 ≤ h.f + h.n - least st.gate cx.ends ∧ h.f + h.n - least st.gate cx.ends ≤ 4611686018427387904 by have := HBD.out; have := HLB.out; omega))
      go_wp2_with fail
      go_region
      all_goals
        have hHD := heldH (below_drew1 (Below.refl _ _)) HHD.out
        by_cases c3 : h.f + h.n - least st.gate cx.ends > cx.cap
        · have u3 : decide (m.cp < h.f + h.n - least st.gate cx.ends) = true := decide_eq_true (by rw [HCP.out]; exact c3)
          have u4 : m.cp < h.f + h.n - least st.gate cx.ends := by rw [HCP.out]; exact c3
          rw [if_pos c3] at HC
          clear c3
          go_wp2_with fail
          go_region_held3 (fun w' => w'.cell? ⟨Q, 0, none⟩ = some (.int .i64 m.vr) ∧ w'.cell? ⟨Q, 1, none⟩ = some (.int .i64 m.wd) ∧ w'.cell? ⟨Q, 2, none⟩ = some (.int .i64 m.cp) ∧ w'.cell? ⟨Q, 3, none⟩ = some (.int .i64 m.pr) ∧ w'.cell? ⟨Q, 4, none⟩ = some (.int .u64 m.sa) ∧ w'.cell? ⟨Q, 5, none⟩ = some (.slice m.U m.un m.uc) ∧ w'.cell? ⟨Q, 6, none⟩ = some (.slice m.A m.L.length m.C) ∧ w'.cell? ⟨Q + 1, 0, none⟩ = some (.int .i64 4) ∧ w'.cell? ⟨Q + 1, 1, none⟩ = some (.int .i64 e.thread) ∧ w'.cell? ⟨Q + 1, 2, none⟩ = some (.int .i64 e.op) ∧ w'.cell? ⟨Q + 1, 3, none⟩ = some (.int .i64 e.n) ∧ w'.cell? ⟨Q + 1, 4, none⟩ = some (.int .u64 e.pos) ∧ w'.cell? ⟨Q + 1, 5, none⟩ = some (.int .i64 e.code) ∧ w'.cell? ⟨Q + 1, 6, none⟩ = some (.slice B e.data.length c) ∧ w'.cell? ⟨H, 0, none⟩ = some (.int .i64 h.f) ∧ w'.cell? ⟨H, 1, none⟩ = some (.int .i64 h.n) ∧ w'.cell? ⟨H, 2, none⟩ = some (.int .i64 h.p) ∧ w'.cell? ⟨H, 3, none⟩ = some (.bool h.g) ∧ VB w w' m up cx st) (first | exact hHD | exact hHE | exact heldH (by assumption) (by assumption)) (first | (go_at_call 38; refine (count_c (heldHOf (by assumption)).r HE.out).mono ?_; rintro r w7 ⟨rfl, b⟩) | (go_at_call 72; refine (taken_c (heldHOf (by assumption)).r).mono ?_; rintro r w7 ⟨rfl, b⟩) | (go_at_call 74; refine (least_m _ m up cx st (heldHOf (by assumption)).r).mono ?_; rintro r w7 ⟨rfl, b⟩))
          have HG := Aside.mk (heldHOf (by assumption))
          go_wp2
          go_ret
          exact ⟨by rw [HC.out]; rfl, HG.out.b⟩
        · have u3 : decide (m.cp < h.f + h.n - least st.gate cx.ends) = false := decide_eq_false (by rw [HCP.out]; exact c3)
          have u4 : h.f + h.n - least st.gate cx.ends ≤ m.cp := by rw [HCP.out]; omega
          rw [if_neg c3] at HC
          clear c3
          go_wp2_with fail
          go_region_held3 (fun w' => w'.cell? ⟨Q, 0, none⟩ = some (.int .i64 m.vr) ∧ w'.cell? ⟨Q, 1, none⟩ = some (.int .i64 m.wd) ∧ w'.cell? ⟨Q, 2, none⟩ = some (.int .i64 m.cp) ∧ w'.cell? ⟨Q, 3, none⟩ = some (.int .i64 m.pr) ∧ w'.cell? ⟨Q, 4, none⟩ = some (.int .u64 m.sa) ∧ w'.cell? ⟨Q, 5, none⟩ = some (.slice m.U m.un m.uc) ∧ w'.cell? ⟨Q, 6, none⟩ = some (.slice m.A m.L.length m.C) ∧ w'.cell? ⟨Q + 1, 0, none⟩ = some (.int .i64 4) ∧ w'.cell? ⟨Q + 1, 1, none⟩ = some (.int .i64 e.thread) ∧ w'.cell? ⟨Q + 1, 2, none⟩ = some (.int .i64 e.op) ∧ w'.cell? ⟨Q + 1, 3, none⟩ = some (.int .i64 e.n) ∧ w'.cell? ⟨Q + 1, 4, none⟩ = some (.int .u64 e.pos) ∧ w'.cell? ⟨Q + 1, 5, none⟩ = some (.int .i64 e.code) ∧ w'.cell? ⟨Q + 1, 6, none⟩ = some (.slice B e.data.length c) ∧ w'.cell? ⟨H, 0, none⟩ = some (.int .i64 h.f) ∧ w'.cell? ⟨H, 1, none⟩ = some (.int .i64 h.n) ∧ w'.cell? ⟨H, 2, none⟩ = some (.int .i64 h.p) ∧ w'.cell? ⟨H, 3, none⟩ = some (.bool h.g) ∧ VB w w' m up cx st) (first | exact hHD | exact hHE | exact heldH (by assumption) (by assumption)) (first | (go_at_call 38; refine (count_c (heldHOf (by assumption)).r HE.out).mono ?_; rintro r w7 ⟨rfl, b⟩) | (go_at_call 72; refine (taken_c (heldHOf (by assumption)).r).mono ?_; rintro r w7 ⟨rfl, b⟩) | (go_at_call 74; refine (least_m _ m up cx st (heldHOf (by assumption)).r).mono ?_; rintro r w7 ⟨rfl, b⟩))
          clear hHD
          obtain ⟨x0, x1, x2, x3, x4, x5, x6, y0, y1, y2, y3, y4, y5, y6, z0, z1, z2, z3, HV⟩ := heldH (Below.refl _ _) (by assumption)
          replace HV := Aside.mk HV
          go_wp2_with fail
          go_region
          all_goals
            go_wp2
            go_ret
            exact ⟨by rw [HC.out]; rfl, (below_drew1 HV.out.b)⟩
    · have k3 : (e.kind == 3) = false := by rw [hk]; rfl
      have k4 : (e.kind == 4) = false := by rw [hk]; rfl
      have k5 : (e.kind == 5) = true := by rw [hk]; rfl
      have HC := Aside.mk (code5 hk HT.out HHE.out)
      rw [hk] at y0
      have HHD := Aside.mk (heldH (below_drew1 (Below.refl _ _)) (And.intro x0 (And.intro x1 (And.intro x2 (And.intro x3 (And.intro x4 (And.intro x5 (And.intro x6 (And.intro y0 (And.intro y1 (And.intro y2 (And.intro y3 (And.intro y4 (And.intro y5 (And.intro y6 (And.intro z0 (And.intro z1 (And.intro z2 (And.intro z3 HV.out)))))))))))))))))))
      clear hk
      cases c1 : h.g with
      | false =>
        rw [if_pos c1] at HC
        go_wp2
        go_ret
        exact ⟨by rw [HC.out]; rfl, HV.out.b⟩
      | true =>
        rw [if_neg (by rw [c1]; decide)] at HC
        by_cases c2 : e.n < 1
        · have u2 : decide (e.n < 1) = true := decide_eq_true c2
          rw [if_pos (.inl c2)] at HC
          clear c2
          go_wp2
          go_ret
          exact ⟨by rw [HC.out]; rfl, HV.out.b⟩
        have u2 : decide (e.n < 1) = false := decide_eq_false c2
        have e0 := w64 (show -4611686018427387904 ≤ h.n - h.p ∧ h.n - h.p ≤ 4611686018427387904 by have := HBD.out; omega)
        by_cases c3 : e.n > h.n - h.p
        · have u3 : decide (h.n - h.p < e.n) = true := decide_eq_true c3
          rw [if_pos (.inr c3)] at HC
          clear c2 c3
          go_wp2
          go_ret
          exact ⟨by rw [HC.out]; rfl, HV.out.b⟩
        have u3 : decide (h.n - h.p < e.n) = false := decide_eq_false c3
        rw [if_neg (by omega)] at HC
        clear c2 c3
        have e1 := (wrapE _).trans (w64 (show -4611686018427387904 ≤ h.f + h.p ∧ h.f + h.p ≤ 4611686018427387904 by have := HBD.out; omega))
        go_wp2_with fail
        go_region
        all_goals
          go_wp2_with fail
          go_region
          all_goals
            have hHD := heldH (h := ⟨h.f, h.n, h.p, true⟩) (below_drew1 (Below.refl _ _)) (heldH (h := ⟨h.f, h.n, h.p, true⟩) (below_drew1 (Below.refl _ _)) (by rw [← c1]; exact HHD.out))
            by_cases c4 : cx.cnt st.taken e.pos = h.f + h.p
            · have u4 : (cx.cnt st.taken e.pos != h.f + h.p) = false := by rw [c4]; simp
              rw [if_neg (by simpa using c4)] at HC
              clear c4
              go_wp2_with fail
              go_region_held3 (fun w' => w'.cell? ⟨Q, 0, none⟩ = some (.int .i64 m.vr) ∧ w'.cell? ⟨Q, 1, none⟩ = some (.int .i64 m.wd) ∧ w'.cell? ⟨Q, 2, none⟩ = some (.int .i64 m.cp) ∧ w'.cell? ⟨Q, 3, none⟩ = some (.int .i64 m.pr) ∧ w'.cell? ⟨Q, 4, none⟩ = some (.int .u64 m.sa) ∧ w'.cell? ⟨Q, 5, none⟩ = some (.slice m.U m.un m.uc) ∧ w'.cell? ⟨Q, 6, none⟩ = some (.slice m.A m.L.length m.C) ∧ w'.cell? ⟨Q + 1, 0, none⟩ = some (.int .i64 5) ∧ w'.cell? ⟨Q + 1, 1, none⟩ = some (.int .i64 e.thread) ∧ w'.cell? ⟨Q + 1, 2, none⟩ = some (.int .i64 e.op) ∧ w'.cell? ⟨Q + 1, 3, none⟩ = some (.int .i64 e.n) ∧ w'.cell? ⟨Q + 1, 4, none⟩ = some (.int .u64 e.pos) ∧ w'.cell? ⟨Q + 1, 5, none⟩ = some (.int .i64 e.code) ∧ w'.cell? ⟨Q + 1, 6, none⟩ = some (.slice B e.data.length c) ∧ w'.cell? ⟨H, 0, none⟩ = some (.int .i64 h.f) ∧ w'.cell? ⟨H, 1, none⟩ = some (.int .i64 h.n) ∧ w'.cell? ⟨H, 2, none⟩ = some (.int .i64 h.p) ∧ w'.cell? ⟨H, 3, none⟩ = some (.bool true) ∧ VB w w' m up cx st) (first | exact hHD | exact hHE | exact heldH (h := ⟨h.f, h.n, h.p, true⟩) (by assumption) (by assumption)) (first | (go_at_call 38; refine (count_c (heldHOf (h := ⟨h.f, h.n, h.p, true⟩) (by assumption)).r HE.out).mono ?_; rintro r w7 ⟨rfl, b⟩) | (go_at_call 72; refine (taken_c (heldHOf (h := ⟨h.f, h.n, h.p, true⟩) (by assumption)).r).mono ?_; rintro r w7 ⟨rfl, b⟩) | (go_at_call 74; refine (least_m _ m up cx st (heldHOf (h := ⟨h.f, h.n, h.p, true⟩) (by assumption)).r).mono ?_; rintro r w7 ⟨rfl, b⟩))
              clear hHD
              obtain ⟨x0, x1, x2, x3, x4, x5, x6, y0, y1, y2, y3, y4, y5, y6, z0, z1, z2, z3, HV⟩ := heldH (h := ⟨h.f, h.n, h.p, true⟩) (Below.refl _ _) (by assumption)
              replace HV := Aside.mk HV
              by_cases c5 : (e.data.length : Int) = e.n
              · have u5 : ((e.data.length : Int) != e.n) = false := by rw [c5]; simp
                rw [if_neg (by simpa using c5)] at HC
                clear c5
                go_wp2
                go_ret
                exact ⟨by rw [HC.out]; rfl, HV.out.b⟩
              · have u5 : ((e.data.length : Int) != e.n) = true := by simpa using c5
                rw [if_pos c5] at HC
                clear c5
                go_wp2
                go_ret
                exact ⟨by rw [HC.out]; rfl, HV.out.b⟩
            · have u4 : (cx.cnt st.taken e.pos != h.f + h.p) = true := by simpa using c4
              rw [if_pos c4] at HC
              clear c4
              go_wp2_with fail
              go_region_held3 (fun w' => w'.cell? ⟨Q, 0, none⟩ = some (.int .i64 m.vr) ∧ w'.cell? ⟨Q, 1, none⟩ = some (.int .i64 m.wd) ∧ w'.cell? ⟨Q, 2, none⟩ = some (.int .i64 m.cp) ∧ w'.cell? ⟨Q, 3, none⟩ = some (.int .i64 m.pr) ∧ w'.cell? ⟨Q, 4, none⟩ = some (.int .u64 m.sa) ∧ w'.cell? ⟨Q, 5, none⟩ = some (.slice m.U m.un m.uc) ∧ w'.cell? ⟨Q, 6, none⟩ = some (.slice m.A m.L.length m.C) ∧ w'.cell? ⟨Q + 1, 0, none⟩ = some (.int .i64 5) ∧ w'.cell? ⟨Q + 1, 1, none⟩ = some (.int .i64 e.thread) ∧ w'.cell? ⟨Q + 1, 2, none⟩ = some (.int .i64 e.op) ∧ w'.cell? ⟨Q + 1, 3, none⟩ = some (.int .i64 e.n) ∧ w'.cell? ⟨Q + 1, 4, none⟩ = some (.int .u64 e.pos) ∧ w'.cell? ⟨Q + 1, 5, none⟩ = some (.int .i64 e.code) ∧ w'.cell? ⟨Q + 1, 6, none⟩ = some (.slice B e.data.length c) ∧ w'.cell? ⟨H, 0, none⟩ = some (.int .i64 h.f) ∧ w'.cell? ⟨H, 1, none⟩ = some (.int .i64 h.n) ∧ w'.cell? ⟨H, 2, none⟩ = some (.int .i64 h.p) ∧ w'.cell? ⟨H, 3, none⟩ = some (.bool true) ∧ VB w w' m up cx st) (first | exact hHD | exact hHE | exact heldH (h := ⟨h.f, h.n, h.p, true⟩) (by assumption) (by assumption)) (first | (go_at_call 38; refine (count_c (heldHOf (h := ⟨h.f, h.n, h.p, true⟩) (by assumption)).r HE.out).mono ?_; rintro r w7 ⟨rfl, b⟩) | (go_at_call 72; refine (taken_c (heldHOf (h := ⟨h.f, h.n, h.p, true⟩) (by assumption)).r).mono ?_; rintro r w7 ⟨rfl, b⟩) | (go_at_call 74; refine (least_m _ m up cx st (heldHOf (h := ⟨h.f, h.n, h.p, true⟩) (by assumption)).r).mono ?_; rintro r w7 ⟨rfl, b⟩))
              have HG := Aside.mk (heldHOf (h := ⟨h.f, h.n, h.p, true⟩) (by assumption))
              go_wp2
              go_ret
              exact ⟨by rw [HC.out]; rfl, HG.out.b⟩
  · have HC := Aside.mk (show code cx st e = 11 by
      unfold code takeC grantC putsC
      rcases HK.out with h | h | h
      · rw [if_pos h, if_pos ht]
      · rw [if_neg (by omega), if_pos h, if_pos ht]
      · rw [if_neg (by omega), if_neg (by omega), if_pos h, if_pos ht])
    by_cases h0 : e.thread < 0
    · have t1 : decide (e.thread < 0) = true := decide_eq_true h0
      clear ht h0
      go_wp2
      go_ret
      exact ⟨by rw [HC.out]; rfl, HV.out.b⟩
    · have t1 : decide (e.thread < 0) = false := decide_eq_false h0
      have t2 : decide (m.pr ≤ e.thread) = true := decide_eq_true (by rw [HV.out.r.pr]; omega)
      clear ht h0
      go_wp2
      go_ret
      exact ⟨by rw [HC.out]; rfl, HV.out.b⟩
end Go.Proofs.YtnnfcdffnckoiaaDoor.Mo
/- The document's model: what is wrong with an event. -/
set_option linter.unusedVariables false
set_option linter.unusedSimpArgs false
set_option maxRecDepth 100000
namespace Go.Proofs.YtnnfcdffnckoiaaDoor.Mo
open Go.RowKit Go.Proofs.YtnnfcdffnckoiaaDoorW.PrintWords Go.Proofs.YtnnfcdffnckoiaaDoorW.PrintLast Go.Proofs.YtnnfcdffnckoiaaDoorW.PrintMore
/-- What stands while an event is looked at. -/
structure WB (w0 w : World) (m : Mp) (e : Ev) (B : Option Addr) (c : Nat) (up : List (List Int)) (cx : Cx) (st : St) : Prop where
  v : VB w0 w m up cx st
  x : w.heap[w0.heap.size]? = some (.cells #[.int .i64 m.vr, .int .i64 m.wd, .int .i64 m.cp, .int .i64 m.pr, .int .u64 m.sa, .slice m.U m.un m.uc, .slice m.A m.L.length m.C] 68 (0, 0))
  y : w.heap[w0.heap.size + 1]? = some (.cells #[.int .i64 e.kind, .int .i64 e.thread, .int .i64 e.op, .int .i64 e.n, .int .u64 e.pos, .int .i64 e.code, .slice B e.data.length c] 44 (0, 0))
theorem WB.step {w0 w w' : World} {m : Mp} {e : Ev} {B : Option Addr} {c : Nat} {up : List (List Int)} {cx : Cx} {st : St} (h : WB w0 w m e B c up cx st) (b : Below w.heap.size w w') : WB w0 w' m e B c up cx st := ⟨h.v.step b, blk_below h.x b, blk_below h.y b⟩
theorem gate_c {w : World} {m : Mp} {up : List (List Int)} {cx : Cx} {st : St} (h : RefOk w m up cx st) {k : Nat} (hk : k < cx.up.length) : Calls Tryd.prog 76 #[.agg #[.int .i64 m.vr, .int .i64 m.wd, .int .i64 m.cp, .int .i64 m.pr, .int .u64 m.sa, .slice m.U m.un m.uc, .slice m.A m.L.length m.C], .int .i64 (k : Int)] w fun e w' => e = .returned (.int .i64 (st.gate.getD k 0)) ∧ Below w.heap.size w w' := by
  have := h.u6
  have h2 := gate_m w m h.mo (k : Int) (by omega)
  rw [h.pr, h.rel.gt k hk] at h2
  rw [h.pr]
  exact h2
theorem saw_c {w : World} {m : Mp} {up : List (List Int)} {cx : Cx} {st : St} (h : RefOk w m up cx st) {k : Nat} (hk : k < cx.up.length) : Calls Tryd.prog 77 #[.agg #[.int .i64 m.vr, .int .i64 m.wd, .int .i64 m.cp, .int .i64 m.pr, .int .u64 m.sa, .slice m.U m.un m.uc, .slice m.A m.L.length m.C], .int .i64 (k : Int)] w fun e w' => e = .returned (.int .i64 (st.saw.getD k 0)) ∧ Below w.heap.size w w' := by
  have := h.u6
  have h2 := saw_m w m h.mo (k : Int) (by omega)
  rw [h.pr, h.rel.sw k hk] at h2
  rw [h.pr]
  exact h2
theorem upl {w : World} {m : Mp} {up : List (List Int)} {cx : Cx} {st : St} (h : RefOk w m up cx st) : m.un = cx.up.length := by rw [h.un, h.uq, List.length_map]
theorem consI_no {w : World} {m : Mp} {up : List (List Int)} {cx : Cx} {st : St} (h : RefOk w m up cx st) {t : Int} (hc : ¬ isCons cx t) : consI m t = -1 := by
  unfold consI
  rw [if_pos]
  unfold isCons at hc
  rw [h.pr, upl h]
  omega
theorem consI_yes {w : World} {m : Mp} {up : List (List Int)} {cx : Cx} {st : St} (h : RefOk w m up cx st) {t : Int} (hc : isCons cx t) : consI m t = ((cons cx t : Nat) : Int) ∧ cons cx t < cx.up.length := by
  unfold isCons at hc
  unfold consI cons
  rw [if_neg (by rw [h.pr, upl h]; omega), h.pr]
  omega
def I64 (t : Int) : Prop := -9223372036854775808 ≤ t ∧ t < 9223372036854775808
set_option maxHeartbeats 8000000 in
theorem wrong_m (w : World) (m : Mp) (up : List (List Int)) (cx : Cx) (st : St) (hr : RefOk w m up cx st) (e : Ev) (B : Option Addr) (c : Nat) (he : U64 e.pos) (ht : I64 e.thread) (hd : e.data.length ≤ 100000) :
    Calls Tryd.prog 70 #[.agg #[.int .i64 m.vr, .int .i64 m.wd, .int .i64 m.cp, .int .i64 m.pr, .int .u64 m.sa, .slice m.U m.un m.uc, .slice m.A m.L.length m.C], .agg #[.int .i64 e.kind, .int .i64 e.thread, .int .i64 e.op, .int .i64 e.n, .int .u64 e.pos, .int .i64 e.code, .slice B e.data.length c]] w fun r w' => r = .returned (.int .i64 (code cx st e)) ∧ Below w.heap.size w w' := by
  have HW := Aside.mk (show WB w ((w.alloc (.cells #[.int .i64 m.vr, .int .i64 m.wd, .int .i64 m.cp, .int .i64 m.pr, .int .u64 m.sa, .slice m.U m.un m.uc, .slice m.A m.L.length m.C] 68)).alloc (.cells #[.int .i64 e.kind, .int .i64 e.thread, .int .i64 e.op, .int .i64 e.n, .int .u64 e.pos, .int .i64 e.code, .slice B e.data.length c] 44)) m e B c up cx st from ⟨⟨(two (.cells #[.int .i64 m.vr, .int .i64 m.wd, .int .i64 m.cp, .int .i64 m.pr, .int .u64 m.sa, .slice m.U m.un m.uc, .slice m.A m.L.length m.C] 68) (.cells #[.int .i64 e.kind, .int .i64 e.thread, .int .i64 e.op, .int .i64 e.n, .int .u64 e.pos, .int .i64 e.code, .slice B e.data.length c] 44)).2.2, hr.below (two (.cells #[.int .i64 m.vr, .int .i64 m.wd, .int .i64 m.cp, .int .i64 m.pr, .int .u64 m.sa, .slice m.U m.un m.uc, .slice m.A m.L.length m.C] 68) (.cells #[.int .i64 e.kind, .int .i64 e.thread, .int .i64 e.op, .int .i64 e.n, .int .u64 e.pos, .int .i64 e.code, .slice B e.data.length c] 44)).2.2⟩, (two (.cells #[.int .i64 m.vr, .int .i64 m.wd, .int .i64 m.cp, .int .i64 m.pr, .int .u64 m.sa, .slice m.U m.un m.uc, .slice m.A m.L.length m.C] 68) (.cells #[.int .i64 e.kind, .int .i64 e.thread, .int .i64 e.op, .int .i64 e.n, .int .u64 e.pos, .int .i64 e.code, .slice B e.data.length c] 44)).1, (two (.cells #[.int .i64 m.vr, .int .i64 m.wd, .int .i64 m.cp, .int .i64 m.pr, .int .u64 m.sa, .slice m.U m.un m.uc, .slice m.A m.L.length m.C] 68) (.cells #[.int .i64 e.kind, .int .i64 e.thread, .int .i64 e.op, .int .i64 e.n, .int .u64 e.pos, .int .i64 e.code, .slice B e.data.length c] 44)).2.1⟩)
  have HE := Aside.mk he
  have HT := Aside.mk ht
  have HD := Aside.mk hd
  clear hr he ht hd
  go_enter Tryd.func70, Tryd.ntmps70
  go_upto_region 1 with (fail)
  generalize (w.alloc (.cells #[.int .i64 m.vr, .int .i64 m.wd, .int .i64 m.cp, .int .i64 m.pr, .int .u64 m.sa, .slice m.U m.un m.uc, .slice m.A m.L.length m.C] 68)).alloc (.cells #[.int .i64 e.kind, .int .i64 e.thread, .int .i64 e.op, .int .i64 e.n, .int .u64 e.pos, .int .i64 e.code, .slice B e.data.length c] 44) = w2 at *
  obtain ⟨x0, x1, x2, x3, x4, x5, x6⟩ := cell7 HW.out.x
  obtain ⟨y0, y1, y2, y3, y4, y5, y6⟩ := cell7 HW.out.y
  by_cases k12 : e.kind = 1 ∨ e.kind = 2
  · have HC := Aside.mk (show code cx st e = 0 by
      unfold code
      rw [if_neg (by omega), if_neg (by omega), if_neg (by omega), if_neg (by omega), if_neg (by omega), if_pos k12])
    by_cases h1 : e.kind = 1
    · have u1 : (e.kind == 1) = true := by rw [h1]; rfl
      clear k12 h1
      go_wp2
      go_ret
      exact ⟨by rw [HC.out]; rfl, HW.out.v.b⟩
    · have u1 : (e.kind == 1) = false := beq_eq_false_iff_ne.2 h1
      have u2 : (e.kind == 2) = true := by rw [k12.resolve_left h1]; rfl
      clear k12 h1
      go_wp2
      go_ret
      exact ⟨by rw [HC.out]; rfl, HW.out.v.b⟩
  have u1 : (e.kind == 1) = false := beq_eq_false_iff_ne.2 (fun h => k12 (.inl h))
  have u2 : (e.kind == 2) = false := beq_eq_false_iff_ne.2 (fun h => k12 (.inr h))
  by_cases k35 : e.kind = 3 ∨ e.kind = 4 ∨ e.kind = 5
  · have u3 : decide (3 ≤ e.kind) = true := decide_eq_true (by omega)
    have u5 : decide (e.kind ≤ 5) = true := decide_eq_true (by omega)
    have HP := Aside.mk (prod_m w2 m up cx st HW.out.v.r e B c HE.out HD.out k35)
    clear k12 k35
    go_wp2_with fail
    refine HP.out.mono ?_
    rintro r w3 ⟨rfl, hb⟩
    replace HW := Aside.mk (HW.out.step hb)
    clear hb
    go_wp2
    go_ret
    exact ⟨rfl, HW.out.v.b⟩
  by_cases k67 : e.kind = 6 ∨ e.kind = 7
  · have u3 : decide (3 ≤ e.kind) = true := decide_eq_true (by omega)
    have u5 : decide (e.kind ≤ 5) = false := decide_eq_false (by omega)
    have K67 := Aside.mk k67
    have HCO := Aside.mk (cons_m w2 m HW.out.v.r.mo (by rw [upl HW.out.v.r]; have := HW.out.v.r.u6; omega) e.thread HT.out)
    by_cases hc : isCons cx e.thread
    · obtain ⟨hc1, hc2⟩ := consI_yes HW.out.v.r hc
      rw [hc1] at HCO
      have HC2 := Aside.mk hc2
      have HIC := Aside.mk hc
      generalize hkk : cons cx e.thread = k at *
      have HKK := Aside.mk hkk
      clear hc1 hc2 hkk hc k67 k35 k12
      have v8 : decide ((k : Int) < 0) = false := decide_eq_false (by omega)
      have HKI := Aside.mk (show ¬ ¬ isCons cx e.thread from fun h => h HIC.out)
      rcases K67.out with h | h
      · have v6 : (e.kind != 6) = false := by rw [h]; rfl
        have w6 : (e.kind == 6) = true := by rw [h]; rfl
        have w7 : (e.kind == 7) = false := by rw [h]; rfl
        have HC := Aside.mk (show code cx st e = if cx.cnt st.taken e.pos < st.saw.getD k 0 then 18 else if cx.cnt st.taken e.pos > limit cx st k then 17 else 0 by
          unfold code seenC
          rw [if_neg (by omega), if_neg (by omega), if_neg (by omega), if_pos h, if_neg HKI.out, HKK.out])
        clear h
        go_wp2_with fail
        refine HCO.out.mono ?_
        rintro r w3 ⟨rfl, hb⟩
        replace HW := Aside.mk (HW.out.step hb)
        clear hb x0 x1 x2 x3 x4 x5 x6 y0 y1 y2 y3 y4 y5 y6
        obtain ⟨x0, x1, x2, x3, x4, x5, x6⟩ := cell7 HW.out.x
        obtain ⟨y0, y1, y2, y3, y4, y5, y6⟩ := cell7 HW.out.y
        go_wp2_with fail
        refine (count_c HW.out.v.r HE.out).mono ?_
        rintro r w4 ⟨rfl, hb⟩
        replace HW := Aside.mk (HW.out.step hb)
        clear hb x0 x1 x2 x3 x4 x5 x6 y0 y1 y2 y3 y4 y5 y6
        obtain ⟨x0, x1, x2, x3, x4, x5, x6⟩ := cell7 HW.out.x
        obtain ⟨y0, y1, y2, y3, y4, y5, y6⟩ := cell7 HW.out.y
        generalize cx.cnt st.taken e.pos = cn at *
        go_wp2_with fail
        refine (saw_c HW.out.v.r HC2.out).mono ?_
        rintro r w5 ⟨rfl, hb⟩
        replace HW := Aside.mk (HW.out.step hb)
        clear hb x0 x1 x2 x3 x4 x5 x6 y0 y1 y2 y3 y4 y5 y6
        obtain ⟨x0, x1, x2, x3, x4, x5, x6⟩ := cell7 HW.out.x
        obtain ⟨y0, y1, y2, y3, y4, y5, y6⟩ := cell7 HW.out.y
        generalize st.saw.getD k 0 = sw at *
        by_cases c1 : cn < sw
        · have d1 : decide (cn < sw) = true := decide_eq_true c1
          rw [if_pos c1] at HC
          clear c1
          go_wp2
          go_ret
          exact ⟨by rw [HC.out]; rfl, HW.out.v.b⟩
        have d1 : decide (cn < sw) = false := decide_eq_false c1
        rw [if_neg c1] at HC
        clear c1
        go_wp2_with fail
        refine (limit_m _ m up cx st HW.out.v.r k HC2.out).mono ?_
        rintro r w6 ⟨rfl, hb⟩
        replace HW := Aside.mk (HW.out.step hb)
        clear hb x0 x1 x2 x3 x4 x5 x6 y0 y1 y2 y3 y4 y5 y6
        obtain ⟨x0, x1, x2, x3, x4, x5, x6⟩ := cell7 HW.out.x
        obtain ⟨y0, y1, y2, y3, y4, y5, y6⟩ := cell7 HW.out.y
        generalize limit cx st k = li at *
        by_cases c2 : cn > li
        · have d2 : decide (li < cn) = true := decide_eq_true c2
          rw [if_pos c2] at HC
          clear c2
          go_wp2
          go_ret
          exact ⟨by rw [HC.out]; rfl, HW.out.v.b⟩
        have d2 : decide (li < cn) = false := decide_eq_false c2
        rw [if_neg c2] at HC
        clear c2
        go_wp2
        go_ret
        exact ⟨by rw [HC.out]; rfl, HW.out.v.b⟩
      · have v6 : (e.kind != 6) = true := by rw [h]; rfl
        have v7 : (e.kind != 7) = false := by rw [h]; rfl
        have w6 : (e.kind == 6) = false := by rw [h]; rfl
        have w7 : (e.kind == 7) = true := by rw [h]; rfl
        have HC := Aside.mk (show code cx st e = if cx.cnt st.taken e.pos ≤ st.gate.getD k 0 ∨ cx.cnt st.taken e.pos > st.saw.getD k 0 then 18 else 0 by
          unfold code freeC
          rw [if_neg (by omega), if_neg (by omega), if_neg (by omega), if_neg (by omega), if_pos h, if_neg HKI.out, HKK.out])
        clear h
        go_wp2_with fail
        refine HCO.out.mono ?_
        rintro r w3 ⟨rfl, hb⟩
        replace HW := Aside.mk (HW.out.step hb)
        clear hb x0 x1 x2 x3 x4 x5 x6 y0 y1 y2 y3 y4 y5 y6
        obtain ⟨x0, x1, x2, x3, x4, x5, x6⟩ := cell7 HW.out.x
        obtain ⟨y0, y1, y2, y3, y4, y5, y6⟩ := cell7 HW.out.y
        go_wp2_with fail
        refine (count_c HW.out.v.r HE.out).mono ?_
        rintro r w4 ⟨rfl, hb⟩
        replace HW := Aside.mk (HW.out.step hb)
        clear hb x0 x1 x2 x3 x4 x5 x6 y0 y1 y2 y3 y4 y5 y6
        obtain ⟨x0, x1, x2, x3, x4, x5, x6⟩ := cell7 HW.out.x
        obtain ⟨y0, y1, y2, y3, y4, y5, y6⟩ := cell7 HW.out.y
        generalize cx.cnt st.taken e.pos = cn at *
        go_wp2_with fail
        refine (gate_c HW.out.v.r HC2.out).mono ?_
        rintro r w5 ⟨rfl, hb⟩
        replace HW := Aside.mk (HW.out.step hb)
        clear hb x0 x1 x2 x3 x4 x5 x6 y0 y1 y2 y3 y4 y5 y6
        obtain ⟨x0, x1, x2, x3, x4, x5, x6⟩ := cell7 HW.out.x
        obtain ⟨y0, y1, y2, y3, y4, y5, y6⟩ := cell7 HW.out.y
        generalize st.gate.getD k 0 = gt at *
        by_cases c1 : cn ≤ gt
        · have d1 : decide (cn ≤ gt) = true := decide_eq_true c1
          rw [if_pos (.inl c1)] at HC
          clear c1
          go_wp2
          go_ret
          exact ⟨by rw [HC.out]; rfl, HW.out.v.b⟩
        have d1 : decide (cn ≤ gt) = false := decide_eq_false c1
        go_wp2_with fail
        refine (saw_c HW.out.v.r HC2.out).mono ?_
        rintro r w6 ⟨rfl, hb⟩
        replace HW := Aside.mk (HW.out.step hb)
        clear hb x0 x1 x2 x3 x4 x5 x6 y0 y1 y2 y3 y4 y5 y6
        obtain ⟨x0, x1, x2, x3, x4, x5, x6⟩ := cell7 HW.out.x
        obtain ⟨y0, y1, y2, y3, y4, y5, y6⟩ := cell7 HW.out.y
        generalize st.saw.getD k 0 = sw at *
        by_cases c2 : cn > sw
        · have d2 : decide (sw < cn) = true := decide_eq_true c2
          rw [if_pos (.inr c2)] at HC
          clear c1 c2
          go_wp2
          go_ret
          exact ⟨by rw [HC.out]; rfl, HW.out.v.b⟩
        have d2 : decide (sw < cn) = false := decide_eq_false c2
        rw [if_neg (by omega)] at HC
        clear c1 c2
        go_wp2
        go_ret
        exact ⟨by rw [HC.out]; rfl, HW.out.v.b⟩
    · have HC := Aside.mk (show code cx st e = 11 by
        unfold code seenC freeC
        rcases k67 with h | h
        · rw [if_neg (by omega), if_neg (by omega), if_neg (by omega), if_pos h, if_pos hc]
        · rw [if_neg (by omega), if_neg (by omega), if_neg (by omega), if_neg (by omega), if_pos h, if_pos hc])
      rw [consI_no HW.out.v.r hc] at HCO
      clear hc k35 k12
      rcases k67 with h | h
      all_goals
        first
          | (have v6 : (e.kind != 6) = false := by rw [h]; rfl)
          | (have v6 : (e.kind != 6) = true := by rw [h]; rfl
             have v7 : (e.kind != 7) = false := by rw [h]; rfl)
        clear h
        go_wp2_with fail
        refine HCO.out.mono ?_
        rintro r w3 ⟨rfl, hb⟩
        replace HW := Aside.mk (HW.out.step hb)
        clear hb
        go_wp2
        go_ret
        exact ⟨by rw [HC.out]; rfl, HW.out.v.b⟩
  · have HC := Aside.mk (show code cx st e = 12 by
      unfold code
      rw [if_neg (by omega), if_neg (by omega), if_neg (by omega), if_neg (by omega), if_neg (by omega), if_neg k12])
    have v6 : (e.kind != 6) = true := by simp; omega
    have v7 : (e.kind != 7) = true := by simp; omega
    by_cases h3 : 3 ≤ e.kind
    · have u3 : decide (3 ≤ e.kind) = true := decide_eq_true h3
      have u5 : decide (e.kind ≤ 5) = false := decide_eq_false (by omega)
      clear k12 k35 k67 h3
      go_wp2
      go_ret
      exact ⟨by rw [HC.out]; rfl, HW.out.v.b⟩
    · have u3 : decide (3 ≤ e.kind) = false := decide_eq_false h3
      clear k12 k35 k67 h3
      go_wp2
      go_ret
      exact ⟨by rw [HC.out]; rfl, HW.out.v.b⟩
end Go.Proofs.YtnnfcdffnckoiaaDoor.Mo
