/- Plain laws of words: texts cut at a byte and joined again, numerals read back, lines. No program in sight. -/
import Derived.Lib.Split
import Derived.Lib.SplitLaws
import Derived.Lib.Join
import Derived.Lib.ItoaNum
import Derived.Lib.ItoaMem
import Derived.Lib.AtoiAll
import Derived.Lib.AtoiAllCases
import GoSem.Core.Utf8
set_option linter.unusedVariables false
set_option linter.unusedSimpArgs false
namespace Go.Proofs.YtabcdcnnamflfaaDoor.Wd
open Go
/-- A text cut at a byte. -/
def sp (c : UInt8) : List UInt8 → List (List UInt8)
  | [] => [[]]
  | b :: l => if b = c then [] :: sp c l else
    match sp c l with
    | x :: r => (b :: x) :: r
    | [] => [[b]]
theorem sp_ne (c : UInt8) (s : List UInt8) : sp c s ≠ [] := by
  cases s with
  | nil => simp [sp]
  | cons b l =>
    unfold sp
    split
    · simp
    · split <;> simp
theorem sp_hit (c : UInt8) (l : List UInt8) : sp c (c :: l) = [] :: sp c l := by rw [sp, if_pos rfl]
theorem sp_miss {b c : UInt8} (h : b ≠ c) (l : List UInt8) {x : List UInt8} {r : List (List UInt8)} (e : sp c l = x :: r) : sp c (b :: l) = (b :: x) :: r := by
  rw [sp, if_neg h, e]
theorem sp_cons (c : UInt8) (s : List UInt8) : ∃ x r, sp c s = x :: r := by
  cases h : sp c s with
  | nil => exact absurd h (sp_ne c s)
  | cons x r => exact ⟨x, r, rfl⟩
theorem sp_front {c : UInt8} : ∀ (p l : List UInt8), c ∉ p → sp c (p ++ c :: l) = p :: sp c l
  | [], l, _ => sp_hit c l
  | b :: p, l, h => by
    have hb : b ≠ c := fun e => h (by simp [e])
    rw [List.cons_append]
    exact sp_miss hb _ (sp_front p l (fun e => h (List.mem_cons_of_mem _ e)))
theorem sp_none {c : UInt8} : ∀ (p : List UInt8), c ∉ p → sp c p = [p]
  | [], _ => rfl
  | b :: p, h => by
    have hb : b ≠ c := fun e => h (by simp [e])
    exact sp_miss hb _ (sp_none p (fun e => h (List.mem_cons_of_mem _ e)))
theorem sp_mem {c : UInt8} : ∀ (s : List UInt8), ∀ w ∈ sp c s, c ∉ w
  | [], w, h => by simp [sp] at h; subst h; simp
  | b :: l, w, h => by
    by_cases e : b = c
    · subst e
      rw [sp_hit] at h
      rcases List.mem_cons.1 h with rfl | h
      · simp
      · exact sp_mem l w h
    · obtain ⟨x, r, hx⟩ := sp_cons c l
      rw [sp_miss e l hx] at h
      rcases List.mem_cons.1 h with rfl | h
      · have := sp_mem l x (by rw [hx]; simp)
        intro hc
        rcases List.mem_cons.1 hc with e2 | hc
        · exact e e2.symm
        · exact this hc
      · exact sp_mem l w (by rw [hx]; exact List.mem_cons_of_mem _ h)
theorem joinTail_cons (sep x : List UInt8) (r : List (List UInt8)) : Lib.joinTail sep (x :: r) = sep ++ x ++ Lib.joinTail sep r := by simp [Lib.joinTail]
/-- What was cut is joined to what it was. -/
theorem join_sp (c : UInt8) : ∀ (s : List UInt8), Lib.join (sp c s) [c] = s
  | [] => by simp [sp, Lib.join_one]
  | b :: l => by
    obtain ⟨x, r, hx⟩ := sp_cons c l
    have ih := join_sp c l
    rw [hx, Lib.join_cons] at ih
    by_cases e : b = c
    · subst e
      rw [sp_hit, Lib.join_cons, hx, joinTail_cons]
      simp [ih]
    · rw [sp_miss e l hx, Lib.join_cons, List.cons_append, ih]
/-- What was joined is cut to what it was. -/
theorem sp_join (c : UInt8) : ∀ (xs : List (List UInt8)), xs ≠ [] → (∀ w ∈ xs, c ∉ w) → sp c (Lib.join xs [c]) = xs
  | [], h, _ => absurd rfl h
  | [x], _, h => by rw [Lib.join_one]; exact sp_none x (h x (by simp))
  | x :: y :: r, _, h => by
    rw [Lib.join_cons, joinTail_cons]
    have e : x ++ ([c] ++ y ++ Lib.joinTail [c] r) = x ++ c :: (Lib.join (y :: r) [c]) := by rw [Lib.join_cons]; simp
    rw [e, sp_front x _ (h x (by simp)), sp_join c (y :: r) (by simp) (fun w hw => h w (List.mem_cons_of_mem _ hw))]
/-! ### the library's Split -/
theorem index_front {c : UInt8} : ∀ (p l : List UInt8), c ∉ p → Lib.index (p ++ c :: l) [c] = (p.length : Int)
  | [], l, _ => by unfold Lib.index; simp
  | b :: p, l, h => by
    have hb : b ≠ c := fun e => h (by simp [e])
    rw [List.cons_append]
    unfold Lib.index
    rw [if_neg (by simp; exact fun e => hb e.symm), index_front p l (fun e => h (List.mem_cons_of_mem _ e))]
    have : ((p.length : Int) == -1) = false := by rw [beq_eq_false_iff_ne]; omega
    simp [this]
theorem index_out {c : UInt8} : ∀ (p : List UInt8), c ∉ p → Lib.index p [c] = -1
  | [], _ => by unfold Lib.index; simp
  | b :: p, h => by
    have hb : b ≠ c := fun e => h (by simp [e])
    unfold Lib.index
    rw [if_neg (by simp; exact fun e => hb e.symm), index_out p (fun e => h (List.mem_cons_of_mem _ e))]
    simp
theorem parts (c : UInt8) (s : List UInt8) : c ∉ s ∨ ∃ p l, s = p ++ c :: l ∧ c ∉ p := by
  induction s with
  | nil => left; simp
  | cons b s ih =>
    by_cases e : b = c
    · exact .inr ⟨[], s, by simp [e], by simp⟩
    · rcases ih with h | ⟨p, l, h1, h2⟩
      · left
        intro hc
        rcases List.mem_cons.1 hc with e2 | hc
        · exact e e2.symm
        · exact h hc
      · refine .inr ⟨b :: p, l, by rw [h1]; rfl, fun hc => ?_⟩
        rcases List.mem_cons.1 hc with e2 | hc
        · exact e e2.symm
        · exact h2 hc
theorem splitK_sp (c : UInt8) : ∀ (k : Nat) (s : List UInt8), s.count c = k → Lib.splitK [c] 0 k s = sp c s
  | 0, s, h => by
    rw [sp_none s (List.count_eq_zero.1 h)]; rfl
  | k + 1, s, h => by
    rcases parts c s with hs | ⟨p, l, rfl, hp⟩
    · rw [List.count_eq_zero.2 hs] at h; omega
    · have hi := index_front p l hp
      have hc : l.count c = k := by
        rw [List.count_append, List.count_eq_zero.2 hp, List.count_cons_self] at h; omega
      unfold Lib.splitK
      rw [hi, if_neg (by rw [beq_iff_eq]; omega), sp_front p l hp]
      have e1 : ((p.length : Int).toNat + 0) = p.length := by omega
      have e2 : ((p.length : Int).toNat + [c].length) = p.length + 1 := by simp
      rw [e1, e2, List.take_left, show (p ++ c :: l).drop (p.length + 1) = l by rw [← List.drop_drop, List.drop_left]; rfl, splitK_sp c k l hc]
theorem splitB_sp (s : ByteArray) (c : UInt8) : (Lib.splitB ⟨#[c]⟩ 0 (Lib.countB s ⟨#[c]⟩) s).map (·.data.toList) = sp c s.data.toList := by
  rw [Lib.splitB_data]
  exact splitK_sp c _ _ (by show _ = Lib.count s.data.toList [c]; rw [Lib.count_one])
theorem cut_front {c : UInt8} (p l : List UInt8) (h : c ∉ p) : Lib.cut (p ++ c :: l) [c] = (p, l, true) := by
  unfold Lib.cut
  rw [index_front p l h, if_pos (by omega)]
  simp
theorem cut_out {c : UInt8} (p : List UInt8) (h : c ∉ p) : Lib.cut p [c] = (p, [], false) := by
  unfold Lib.cut
  rw [index_out p h, if_neg (by omega)]
/-! ### numerals -/
def isDig (b : UInt8) : Prop := 48 ≤ b.toNat ∧ b.toNat ≤ 57
theorem dig_of (d : Nat) (h : d < 10) : (UInt8.ofNat (48 + d)).toNat = 48 + d := by
  simp; omega
theorem decDigits_dig : ∀ (u : Nat), ∀ b ∈ Lib.decDigits u, isDig b := by
  intro u
  induction u using Nat.strongRecOn with
  | _ u ih =>
    intro b hb
    rw [Lib.decDigits] at hb
    split at hb
    · next h =>
      rw [List.mem_singleton] at hb
      subst hb
      unfold isDig; rw [dig_of u h]; omega
    · next h =>
      rcases List.mem_append.1 hb with hb | hb
      · exact ih (u / 10) (by omega) b hb
      · rw [List.mem_singleton] at hb
        subst hb
        unfold isDig; rw [dig_of _ (by omega)]; omega
theorem decDigits_ne (u : Nat) : Lib.decDigits u ≠ [] := by
  rw [Lib.decDigits]
  split <;> simp
theorem parse_append : ∀ (l : List UInt8) (b : UInt8) (a u : Nat), Lib.parseUint10 a l = .ok u → Lib.parseUint10 a (l ++ [b]) = Lib.parseUint10 u [b]
  | [], b, a, u, h => by
    simp only [Lib.parseUint10] at h
    injection h with h
    subst h; rfl
  | c :: r, b, a, u, h => by
    rw [List.cons_append]
    rw [Lib.parseUint10] at h ⊢
    split at h
    · next h1 =>
      rw [if_pos h1]
      split at h
      · cases h
      · next h2 =>
        rw [if_neg h2]
        split at h
        · cases h
        · next h3 =>
          rw [if_neg h3]
          exact parse_append r b _ u h
    · cases h
theorem parse_dec (u : Nat) (h : u < 18446744073709551616) : Lib.parseUint10 0 (Lib.decDigits u) = .ok u := by
  induction u using Nat.strongRecOn with
  | _ u ih =>
    rw [Lib.decDigits]
    split
    · next h1 =>
      unfold Lib.parseUint10
      rw [dig_of u h1, if_pos (by omega), if_neg (by omega), if_neg (by omega)]
      unfold Lib.parseUint10
      congr 1; omega
    · next h1 =>
      rw [parse_append _ _ _ _ (ih (u / 10) (by omega) (by omega))]
      unfold Lib.parseUint10
      rw [dig_of _ (by omega), if_pos (by omega), if_neg (by omega), if_neg (by omega)]
      unfold Lib.parseUint10
      congr 1; omega
theorem parseMag_dec (u : Nat) (h : u < 18446744073709551616) : Lib.parseMag (Lib.decDigits u) = .ok u := by
  unfold Lib.parseMag
  rw [if_neg (decDigits_ne u), parse_dec u h]
theorem atoi_itoa (n : Int) (h0 : -9223372036854775808 ≤ n) (h1 : n ≤ 9223372036854775807) : Lib.atoiAll (Lib.itoa n) = .ok n := by
  unfold Lib.itoa
  split
  · next h =>
    unfold Lib.atoiAll
    have e1 : (45 : UInt8).toNat = 45 := rfl
    simp only [e1]
    rw [if_pos (by simp), parseMag_dec _ (by omega)]
    simp only
    rw [if_neg (by simp), if_neg (by simp; omega)]
    rw [if_pos trivial]
    congr 1; omega
  · next h =>
    cases hd : Lib.decDigits n.toNat with
    | nil => exact absurd hd (decDigits_ne _)
    | cons c r =>
      have hc := decDigits_dig n.toNat c (by rw [hd]; simp)
      unfold isDig at hc
      unfold Lib.atoiAll
      simp only
      rw [if_neg (by omega), ← hd, parseMag_dec _ (by omega)]
      simp only
      rw [if_neg (by omega), if_neg (by omega), if_neg (by omega)]
      congr 1; omega
/-- The number that a word is. -/
def numOf (w : List UInt8) : Option Int := match Lib.atoiAll w with
  | .ok v => if Lib.itoa v = w then some v else none
  | _ => none
theorem numOf_itoa (n : Int) (h0 : -9223372036854775808 ≤ n) (h1 : n ≤ 9223372036854775807) : numOf (Lib.itoa n) = some n := by
  unfold numOf; rw [atoi_itoa n h0 h1]; simp
theorem numOf_some {w : List UInt8} {v : Int} (h : numOf w = some v) : Lib.itoa v = w := by
  unfold numOf at h
  split at h
  · split at h
    · next h1 => injection h with h; subst h; exact h1
    · cases h
  · cases h
def bigOf (w : List UInt8) : Option Nat := match Lib.parseMag w with
  | .ok v => if Lib.decDigits v = w then some v else none
  | _ => none
theorem bigOf_dec (u : Nat) (h : u < 18446744073709551616) : bigOf (Lib.decDigits u) = some u := by
  unfold bigOf; rw [parseMag_dec u h]; simp
theorem bigOf_some {w : List UInt8} {v : Nat} (h : bigOf w = some v) : Lib.decDigits v = w := by
  unfold bigOf at h
  split at h
  · split at h
    · next h1 => injection h with h; subst h; exact h1
    · cases h
  · cases h
theorem itoa_byte (n : Int) : ∀ b ∈ Lib.itoa n, b.toNat = 45 ∨ isDig b := by
  intro b hb
  unfold Lib.itoa at hb
  split at hb
  · rcases List.mem_cons.1 hb with rfl | hb
    · exact .inl rfl
    · exact .inr (decDigits_dig _ b hb)
  · exact .inr (decDigits_dig _ b hb)
theorem itoa_no (n : Int) (c : UInt8) (h : c.toNat < 45 ∨ c.toNat = 46 ∨ c.toNat = 47 ∨ 57 < c.toNat) : c ∉ Lib.itoa n := fun hc => by
  rcases itoa_byte n c hc with e | ⟨e1, e2⟩ <;> omega
theorem itoa_ne (n : Int) : Lib.itoa n ≠ [] := by
  unfold Lib.itoa
  split
  · simp
  · exact decDigits_ne _
/-! ### lists -/
def listTxt (l : List Int) : List UInt8 := if l = [] then [46] else Lib.join (l.map Lib.itoa) [44]
def listOf (s : List UInt8) : Option (List Int) := if s = [46] then some [] else (sp 44 s).mapM numOf
theorem mapM_itoa : ∀ (l : List Int), (∀ n ∈ l, -9223372036854775808 ≤ n ∧ n ≤ 9223372036854775807) → (l.map Lib.itoa).mapM numOf = some l
  | [], _ => rfl
  | n :: l, h => by
    rw [List.map_cons, List.mapM_cons, numOf_itoa n (h n (by simp)).1 (h n (by simp)).2, mapM_itoa l (fun m hm => h m (List.mem_cons_of_mem _ hm))]
    rfl
theorem mapM_num : ∀ (ws : List (List UInt8)) (l : List Int), ws.mapM numOf = some l → ws = l.map Lib.itoa
  | [], l, h => by
    simp at h; subst h; rfl
  | w :: ws, l, h => by
    rw [List.mapM_cons] at h
    cases h1 : numOf w with
    | none => rw [h1] at h; cases h
    | some v =>
      cases h2 : ws.mapM numOf with
      | none => rw [h1, h2] at h; cases h
      | some r =>
        rw [h1, h2] at h
        injection h with h
        subst h
        rw [List.map_cons, numOf_some h1, mapM_num ws r h2]
theorem dot_no_list (l : List Int) (hl : l ≠ []) : Lib.join (l.map Lib.itoa) [44] ≠ [46] := by
  intro e
  have h1 := sp_join 44 (l.map Lib.itoa) (by simpa using hl) (fun w hw => by
    obtain ⟨n, _, rfl⟩ := List.mem_map.1 hw
    exact itoa_no n 44 (by left; decide))
  rw [e] at h1
  have h2 : sp 44 [46] = [[46]] := by decide
  rw [h2] at h1
  cases l with
  | nil => exact hl rfl
  | cons n l =>
    rw [List.map_cons] at h1
    injection h1 with h1 _
    exact itoa_no n 46 (by right; left; decide) (by rw [← h1]; simp)
theorem listOf_txt (l : List Int) (h : ∀ n ∈ l, -9223372036854775808 ≤ n ∧ n ≤ 9223372036854775807) : listOf (listTxt l) = some l := by
  unfold listOf listTxt
  by_cases e : l = []
  · subst e; simp
  · rw [if_neg e, if_neg (dot_no_list l e), sp_join 44 _ (by simpa using e) (fun w hw => by
      obtain ⟨n, _, rfl⟩ := List.mem_map.1 hw
      exact itoa_no n 44 (by left; decide)), mapM_itoa l h]
theorem listOf_some {s : List UInt8} {l : List Int} (h : listOf s = some l) : listTxt l = s := by
  unfold listOf at h
  split at h
  · next e => injection h with h; subst h; subst e; rfl
  · next e =>
    have hs := mapM_num _ l h
    unfold listTxt
    have hl : l ≠ [] := fun e2 => by subst e2; exact sp_ne 44 s hs
    rw [if_neg hl, ← hs, join_sp]
theorem listOf_num {w : List UInt8} {v : Int} (h : numOf w = some v) : listOf w = some [v] := by
  have e := numOf_some h
  unfold listOf
  rw [if_neg (fun e2 => itoa_no v 46 (by right; left; decide) (by rw [e, e2]; simp)), sp_none w (by rw [← e]; exact itoa_no v 44 (by left; decide))]
  simp [h]
theorem bigOf_num {w : List UInt8} {v : Int} (h : numOf w = some v) (h0 : 0 ≤ v) (h1 : v ≤ 9223372036854775807) : bigOf w = some v.toNat := by
  have e := numOf_some h
  rw [← e]
  unfold Lib.itoa
  rw [if_neg (by omega)]
  exact bigOf_dec _ (by omega)
/-! ### lines -/
def plainB (w : List UInt8) : Bool := w ≠ [] && w.all fun b => decide (32 < b.toNat) && decide (b.toNat ≤ 126)
def lineB (s : List UInt8) : Bool := s = [] || (sp 32 s).all plainB
def wordsOf (s : List UInt8) : List (List UInt8) := if s = [] then [] else sp 32 s
/-! ### a line, byte by byte -/
def okB (b : UInt8) : Bool := decide (32 < b.toNat) && decide (b.toNat ≤ 126)
def lineG : Bool → List UInt8 → Bool
  | p, [] => !p
  | p, b :: l => if b = 32 then !p && lineG true l else okB b && lineG false l
theorem plainB_eq (w : List UInt8) : plainB w = (!w.isEmpty && w.all okB) := by
  unfold plainB okB
  cases w <;> simp
theorem line_both : ∀ (s : List UInt8), (sp 32 s).all plainB = lineG true s ∧ ∀ x r, sp 32 s = x :: r → (x.all okB && r.all plainB) = lineG false s
  | [] => ⟨by decide, fun x r h => by simp [sp] at h; obtain ⟨rfl, rfl⟩ := h; simp [lineG]⟩
  | b :: l => by
    obtain ⟨ha, hb⟩ := line_both l
    by_cases e : b = 32
    · subst e
      rw [sp_hit]
      refine ⟨by simp [lineG, plainB], fun x r h => ?_⟩
      injection h with h1 h2
      subst h1; subst h2
      rw [ha]; simp [lineG]
    · obtain ⟨x, r, hx⟩ := sp_cons 32 l
      have h2 := hb x r hx
      rw [sp_miss e l hx]
      refine ⟨?_, fun y q h => ?_⟩
      · rw [List.all_cons, plainB_eq]
        simp only [List.isEmpty_cons, Bool.not_false, Bool.true_and, List.all_cons, lineG, if_neg e]
        rw [← h2, Bool.and_assoc]
      · injection h with h3 h4
        subst h3; subst h4
        simp only [List.all_cons, lineG, if_neg e]
        rw [← h2, Bool.and_assoc]
theorem lineB_eq (s : List UInt8) : lineB s = (s.isEmpty || lineG true s) := by
  unfold lineB
  rw [(line_both s).1]
  cases s <;> simp
theorem sp_snoc (c : UInt8) : ∀ (s : List UInt8) (b : UInt8), sp c (s ++ [b]) = if b = c then sp c s ++ [[]] else (sp c s).dropLast ++ [(sp c s).getLast (sp_ne c s) ++ [b]]
  | [], b => by
    by_cases e : b = c
    · subst e; simp [sp]
    · simp [sp, e]
  | a :: s, b => by
    have ih := sp_snoc c s b
    obtain ⟨x, r, hx⟩ := sp_cons c s
    by_cases e : b = c
    · subst e
      rw [if_pos rfl] at ih ⊢
      rw [List.cons_append]
      by_cases ea : a = b
      · subst ea
        rw [sp_hit, sp_hit, ih]; rfl
      · rw [sp_miss ea s hx, sp_miss ea (s ++ [b]) (x := x) (r := r ++ [[]]) (by rw [ih, hx]; rfl)]
        rfl
    · rw [if_neg e] at ih ⊢
      rw [List.cons_append]
      by_cases ea : a = c
      · subst ea
        simp only [sp_hit]
        rw [ih, List.dropLast_cons_of_ne_nil (sp_ne a s), List.getLast_cons (sp_ne a s)]
        rfl
      · simp only [hx] at ih
        simp only [sp_miss ea s hx]
        cases r with
        | nil =>
          simp only [List.dropLast_singleton, List.getLast_singleton, List.nil_append] at ih ⊢
          rw [sp_miss ea (s ++ [b]) ih]
          rfl
        | cons y q =>
          simp only [List.dropLast_cons_cons, List.cons_append] at ih
          rw [sp_miss ea (s ++ [b]) ih]
          simp
/-! ### lines -/
/-- A text's lines, or (none) the number of the first one that is none. -/
def linesOf (s : List UInt8) : Option (List (List UInt8)) × Nat :=
  match (sp 10 s).dropLast.findIdx? (fun l => !lineB l) with
  | some i => (none, i + 1)
  | none => if (sp 10 s).getLast (sp_ne 10 s) = [] then (some (sp 10 s).dropLast, 0) else (none, (sp 10 s).dropLast.length + 1)
theorem find_skip (out : List (List UInt8)) (h : ∀ l ∈ out, lineB l = true) (r : List (List UInt8)) : (out ++ r).findIdx? (fun l => !lineB l) = (r.findIdx? (fun l => !lineB l)).map (· + out.length) := by
  rw [List.findIdx?_append]
  have : out.findIdx? (fun l => !lineB l) = none := by
    rw [List.findIdx?_eq_none_iff]
    intro x hx; rw [h x hx]; rfl
  rw [this]; simp
theorem find_none (out : List (List UInt8)) (h : ∀ l ∈ out, lineB l = true) : out.findIdx? (fun l => !lineB l) = none := by
  rw [List.findIdx?_eq_none_iff]
  intro x hx; rw [h x hx]; rfl
theorem lines_end {s : List UInt8} {out : List (List UInt8)} (h : ∀ l ∈ out, lineB l = true) (e : sp 10 s = out ++ [[]]) : linesOf s = (some out, 0) := by
  unfold linesOf
  simp only [e, List.dropLast_concat, List.getLast_concat, find_none out h, if_true]
theorem lines_rest {s : List UInt8} {out : List (List UInt8)} {x : List UInt8} (h : ∀ l ∈ out, lineB l = true) (hx : x ≠ []) (e : sp 10 s = out ++ [x]) : linesOf s = (none, out.length + 1) := by
  unfold linesOf
  simp only [e, List.dropLast_concat, List.getLast_concat, find_none out h, if_neg hx]
theorem lines_bad {s : List UInt8} {out r : List (List UInt8)} {x : List UInt8} (h : ∀ l ∈ out, lineB l = true) (hx : lineB x = false) (hr : r ≠ []) (e : sp 10 s = out ++ x :: r) : linesOf s = (none, out.length + 1) := by
  unfold linesOf
  have e2 : (sp 10 s).dropLast = out ++ x :: r.dropLast := by
    rw [e, List.dropLast_append_of_ne_nil (by simp), List.dropLast_cons_of_ne_nil hr]
  rw [e2, find_skip out h, List.findIdx?_cons]
  simp [hx]
/-! ### a byte past ASCII -/
theorem decode_high (s : ByteArray) (i : Nat) (h : 128 ≤ (s.get! i).toNat) : 128 ≤ (Utf8.decode s i).1 := by
  unfold Utf8.decode
  simp only [Nat.add_zero]
  rw [if_neg (by omega)]
  split
  · split
    · next h => simpa using h
    · decide
  · split
    · split
      · next h =>
        simp only [ge_iff_le, Bool.and_eq_true, decide_eq_true_eq] at h
        show 128 ≤ _
        omega
      · decide
    · split
      · split
        · next h =>
          simp only [ge_iff_le, Bool.and_eq_true, decide_eq_true_eq] at h
          show 128 ≤ _
          omega
        · decide
      · decide
end Go.Proofs.YtabcdcnnamflfaaDoor.Wd
