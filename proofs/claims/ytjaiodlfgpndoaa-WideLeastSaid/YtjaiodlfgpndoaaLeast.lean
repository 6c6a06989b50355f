/- The plain law of WideLeast: of counters that stand near each other none is behind the least one, which is one of them: numbers and lists alone. -/
import Derived.Test.YtjaiodlfgpndoaaQLeastx2
namespace Go.Proofs.Ytjaiodlfgpndoaa.Pure
open Go.RowKit Go.Proofs.Ytjaiodlfgpndoaa.QLeast Go.Proofs.YtjaiodlfgpndoaaW.PrintWords Go.Proofs.YtjaiodlfgpndoaaW.PrintLast
set_option linter.unusedVariables false
theorem u64_wrap (a : Int) : IntKind.u64.wrap a = a % 18446744073709551616 := by
  simp [IntKind.wrap, IntKind.bits, IntKind.signed]
def e32 (a b : Int) : Int := wrap64 (wrap32 ((a - b) % 4294967296))
def e64 (a b : Int) : Int := wrap64 ((a - b) % 18446744073709551616)
def p32 (f o : Int) : Int := (f + o % 4294967296) % 4294967296
def p64 (a o : Int) : Int := (a + o % 18446744073709551616) % 18446744073709551616
theorem diff32 (a b : Int) : wide_Diff_uint32.f a b = some (e32 a b) := rfl
theorem diff64 (a b : Int) : wide_Diff_uint64.f a b = some (e64 a b) := by
  simp only [wide_Diff_uint64.f, wide_signed_uint64.f, wide_Bits_uint64.f, Option.bind_some, u64_wrap]; rfl
theorem less32 (a b : Int) : wide_Less_uint32.f a b = some (decide (e32 a b < 0)) := rfl
theorem less64 (a b : Int) : wide_Less_uint64.f a b = some (decide (e64 a b < 0)) := by
  simp only [wide_Less_uint64.f, diff64, Option.bind_some]
theorem live_ok : sakialaw01_live.f = some true := by decide +kernel
def near (o : Int) : Prop := -536870912 < o ∧ o < 536870912
theorem gap32 {f p q : Int} (hp : near p) (hq : near q) : e32 (p32 f p) (p32 f q) = p - q := by
  unfold near at hp hq; unfold e32 p32 wrap64 wrap32; omega
theorem gap64 {a p q : Int} (hp : near p) (hq : near q) : e64 (p64 a p) (p64 a q) = p - q := by
  unfold near at hp hq; unfold e64 p64 wrap64; omega
def step (b o : Int) : Int := if o < b then o else b
def mins (b : Int) (os : List Int) : Int := os.foldl step b
theorem mins_le (os : List Int) : ∀ b, mins b os ≤ b ∧ (∀ o ∈ os, mins b os ≤ o) ∧ (mins b os = b ∨ mins b os ∈ os) := by
  induction os with
  | nil => intro b; exact ⟨Int.le_refl _, fun o h => by simp at h, .inl rfl⟩
  | cons x os ih =>
    intro b
    obtain ⟨h1, h2, h3⟩ := ih (step b x)
    have e : mins b (x :: os) = mins (step b x) os := rfl
    rw [e]
    have s1 : step b x ≤ b ∧ step b x ≤ x ∧ (step b x = b ∨ step b x = x) := by unfold step; split <;> omega
    refine ⟨by omega, fun o ho => ?_, ?_⟩
    · rcases List.mem_cons.1 ho with rfl | ho
      · omega
      · exact h2 o ho
    · rcases h3 with h3 | h3
      · rcases s1.2.2 with s | s
        · exact .inl (by omega)
        · exact .inr (by rw [h3, s]; exact List.mem_cons_self ..)
      · exact .inr (List.mem_cons_of_mem _ h3)
theorem wrap_succ {i : Int} (h : 0 ≤ i) (h2 : i < 1000) : wrap64 (i + 1) = i + 1 := by unfold wrap64; omega
theorem rd_at (xs : List Int) (i : Nat) (h : i < xs.length) : rd xs (i : Int) = xs[i] := by
  simp [rd, h]
theorem least32_loop (f : Int) (os : List Int) (hos : ∀ o ∈ os, near o) (hn : os.length < 1000) : ∀ (d k i : Nat) (b : Int), os.length - i = d → i ≤ os.length → d < k → near b →
    wide_Least_uint32.l0 k (p32 f b) (os.map (p32 f)) ((os.map (p32 f)).length : Int) (i : Int) = some (p32 f (mins b (os.drop i))) := by
  intro d
  induction d with
  | zero =>
    intro k i b hd hi hk hb
    obtain ⟨k, rfl⟩ : ∃ m, k = m + 1 := ⟨k - 1, by omega⟩
    simp only [wide_Least_uint32.l0]
    rw [if_neg (by simp; omega), List.drop_eq_nil_of_le (by omega)]; rfl
  | succ d ih =>
    intro k i b hd hi hk hb
    obtain ⟨k, rfl⟩ : ∃ m, k = m + 1 := ⟨k - 1, by omega⟩
    have hlt : i < os.length := by omega
    have hx := hos os[i] (List.getElem_mem hlt)
    simp only [wide_Least_uint32.l0]
    rw [if_pos (by simp; omega), if_pos (by omega), if_pos (by simp; omega), rd_at _ _ (by simp; omega), less32, Option.bind_some, List.getElem_map, gap32 hx hb, wrap_succ (by omega) (by omega)]
    have ed : mins b (os.drop i) = mins (step b os[i]) (os.drop (i + 1)) := by rw [List.drop_eq_getElem_cons hlt]; rfl
    rw [ed]
    by_cases hc : os[i] < b
    · rw [if_pos (by simp; omega)]
      have es : step b os[i] = os[i] := by unfold step; rw [if_pos hc]
      rw [es]
      exact ih k (i + 1) _ (by omega) (by omega) (by omega) hx
    · rw [if_neg (by simp; omega)]
      have es : step b os[i] = b := by unfold step; rw [if_neg hc]
      rw [es]
      exact ih k (i + 1) _ (by omega) (by omega) (by omega) hb
theorem least64_loop (f : Int) (os : List Int) (hos : ∀ o ∈ os, near o) (hn : os.length < 1000) : ∀ (d k i : Nat) (b : Int), os.length - i = d → i ≤ os.length → d < k → near b →
    wide_Least_uint64.l0 k (p64 f b) (os.map (p64 f)) ((os.map (p64 f)).length : Int) (i : Int) = some (p64 f (mins b (os.drop i))) := by
  intro d
  induction d with
  | zero =>
    intro k i b hd hi hk hb
    obtain ⟨k, rfl⟩ : ∃ m, k = m + 1 := ⟨k - 1, by omega⟩
    simp only [wide_Least_uint64.l0]
    rw [if_neg (by simp; omega), List.drop_eq_nil_of_le (by omega)]; rfl
  | succ d ih =>
    intro k i b hd hi hk hb
    obtain ⟨k, rfl⟩ : ∃ m, k = m + 1 := ⟨k - 1, by omega⟩
    have hlt : i < os.length := by omega
    have hx := hos os[i] (List.getElem_mem hlt)
    simp only [wide_Least_uint64.l0]
    rw [if_pos (by simp; omega), if_pos (by omega), if_pos (by simp; omega), rd_at _ _ (by simp; omega), less64, Option.bind_some, List.getElem_map, gap64 hx hb, wrap_succ (by omega) (by omega)]
    have ed : mins b (os.drop i) = mins (step b os[i]) (os.drop (i + 1)) := by rw [List.drop_eq_getElem_cons hlt]; rfl
    rw [ed]
    by_cases hc : os[i] < b
    · rw [if_pos (by simp; omega)]
      have es : step b os[i] = os[i] := by unfold step; rw [if_pos hc]
      rw [es]
      exact ih k (i + 1) _ (by omega) (by omega) (by omega) hx
    · rw [if_neg (by simp; omega)]
      have es : step b os[i] = b := by unfold step; rw [if_neg hc]
      rw [es]
      exact ih k (i + 1) _ (by omega) (by omega) (by omega) hb
def off (x : Int) : Int := wrap64 (Int.tmod x 536870912)
theorem off_near {x : Int} (h : (Lit.int .i32 x).wf = true) : near (off x) := by
  unfold off near wrap64
  have h1 := Int.tmod_lt_of_pos x (show (0 : Int) < 536870912 by omega)
  have h2 := Int.lt_tmod_of_pos x (show (0 : Int) < 536870912 by omega)
  omega
/-- The second loop: none is behind, and what is sought is met. -/
theorem check_loop (a f : Int) (os : List Int) (m : Int) (hos : ∀ o ∈ os, near o) (hm : near m) (hle : ∀ o ∈ os, m ≤ o) (hn : os.length < 1000) (hf : p32 f 0 = f) (ha : p64 a 0 = a) :
    ∀ (d k i : Nat) (x y : Bool), os.length - i = d → i ≤ os.length → d < k → (x = true ∨ ∃ j : Nat, ∃ h : j < os.length, i ≤ j ∧ p32 f m = p32 f os[j]) → (y = true ∨ ∃ j : Nat, ∃ h : j < os.length, i ≤ j ∧ p64 a m = p64 a os[j]) →
    sakialaw01_WideLeast.l1 k a f (os.map (p32 f)) (os.map (p64 a)) (p32 f m) (p64 a m) x y (i : Int) = some true := by
  intro d
  induction d with
  | zero =>
    intro k i x y hd hi hk hx hy
    obtain ⟨k, rfl⟩ : ∃ m, k = m + 1 := ⟨k - 1, by omega⟩
    have hx : x = true := by rcases hx with h | ⟨j, h1, h2, _⟩; exact h; omega
    have hy : y = true := by rcases hy with h | ⟨j, h1, h2, _⟩; exact h; omega
    subst hx; subst hy
    simp only [sakialaw01_WideLeast.l1]
    rw [if_neg (by simp; omega), if_pos trivial, if_pos trivial, diff64, Option.bind_some, diff32, Option.bind_some]
    have e1 : e64 (p64 a m) a = m := by have := gap64 (a := a) hm (show near 0 by unfold near; omega); rw [ha] at this; omega
    have e2 : e32 (p32 f m) f = m := by have := gap32 (f := f) hm (show near 0 by unfold near; omega); rw [hf] at this; omega
    rw [e1, e2, if_pos rfl, live_ok]; rfl
  | succ d ih =>
    intro k i x y hd hi hk hx hy
    obtain ⟨k, rfl⟩ : ∃ m, k = m + 1 := ⟨k - 1, by omega⟩
    have hlt : i < os.length := by omega
    have ho := hos os[i] (List.getElem_mem hlt)
    have hl := hle os[i] (List.getElem_mem hlt)
    simp only [sakialaw01_WideLeast.l1]
    rw [if_pos (by simp; omega), if_pos (by omega), rd_at _ _ (by simp; omega), less32, Option.bind_some, List.getElem_map, gap32 ho hm, if_neg (by simp; omega), if_pos (by simp; omega), rd_at _ _ (by simp; omega), less64, Option.bind_some, List.getElem_map, gap64 ho hm, if_neg (by simp; omega), wrap_succ (by omega) (by omega)]
    have key : ∀ (x' y' : Bool), (x = true → x' = true) → (p32 f m = p32 f os[i] → x' = true) → (y = true → y' = true) → (p64 a m = p64 a os[i] → y' = true) →
        sakialaw01_WideLeast.l1 k a f (os.map (p32 f)) (os.map (p64 a)) (p32 f m) (p64 a m) x' y' ((i : Int) + 1) = some true := by
      intro x' y' h1 h2 h3 h4
      refine ih k (i + 1) x' y' (by omega) (by omega) (by omega) ?_ ?_
      · rcases hx with h | ⟨j, hj, hij, e⟩
        · exact .inl (h1 h)
        · by_cases hji : j = i
          · subst hji; exact .inl (h2 e)
          · exact .inr ⟨j, hj, by omega, e⟩
      · rcases hy with h | ⟨j, hj, hij, e⟩
        · exact .inl (h3 h)
        · by_cases hji : j = i
          · subst hji; exact .inl (h4 e)
          · exact .inr ⟨j, hj, by omega, e⟩
    split
    · split
      · exact key _ _ (fun _ => rfl) (fun _ => rfl) (fun _ => rfl) (fun _ => rfl)
      · rename_i hy'
        exact key _ _ (fun _ => rfl) (fun _ => rfl) (fun h => absurd h hy') (fun h => by simpa using h)
    · rename_i hx'
      split
      · exact key _ _ (fun h => absurd h hx') (fun h => by simpa using h) (fun _ => rfl) (fun _ => rfl)
      · rename_i hy'
        exact key _ _ (fun h => absurd h hx') (fun h => by simpa using h) (fun h => absurd h hy') (fun h => by simpa using h)
theorem make_loop (a f : Int) (l : List Int) (hl : ∀ x ∈ l, (Lit.int .i32 x).wf = true) (hn : l.length ≤ 40) (hf : p32 f 0 = f) (ha : p64 a 0 = a) : ∀ (d k i : Nat), l.length - i = d → i ≤ l.length → d + 100 < k →
    sakialaw01_WideLeast.l0 k a l f (((l.take i).map off).map (p32 f)) (((l.take i).map off).map (p64 a)) (i : Int) = some true := by
  intro d
  induction d with
  | zero =>
    intro k i hd hi hk
    obtain ⟨k, rfl⟩ : ∃ m, k = m + 1 := ⟨k - 1, by omega⟩
    simp only [sakialaw01_WideLeast.l0]
    rw [if_neg (by omega), List.take_of_length_le (by omega)]
    have hos : ∀ o ∈ l.map off, near o := fun o ho => by
      obtain ⟨x, hx, rfl⟩ := List.mem_map.1 ho
      exact off_near (hl x hx)
    have hz : near 0 := by unfold near; omega
    have hlen : (l.map off).length = l.length := by simp
    generalize l.map off = os at hos hlen
    have h1 := least32_loop f os hos (by omega) os.length k 0 0 (by omega) (by omega) (by omega) hz
    have h2 := least64_loop a os hos (by omega) os.length k 0 0 (by omega) (by omega) (by omega) hz
    rw [hf] at h1; rw [ha] at h2
    obtain ⟨m1, m2, m3⟩ := mins_le os 0
    have hm : near (mins 0 os) := by rcases m3 with h | h; rw [h]; exact hz; exact hos _ h
    simp only [wide_Least_uint32.f, wide_Least_uint64.f]
    rw [show (((0 : Nat) : Int)) = 0 from rfl] at h1 h2
    rw [h1, Option.bind_some, h2, Option.bind_some]
    rw [List.drop_zero]
    have hcase : mins 0 os = 0 ∨ ∃ j : Nat, ∃ h : j < os.length, mins 0 os = os[j] := by
      rcases m3 with h | h
      · exact .inl h
      · obtain ⟨j, hj, e⟩ := List.mem_iff_getElem.1 h
        exact .inr ⟨j, hj, e.symm⟩
    refine check_loop a f os (mins 0 os) hos hm m2 (by omega) hf ha os.length k 0 _ _ (by omega) (by omega) (by omega) ?_ ?_
    · rcases hcase with h | ⟨j, hj, e⟩
      · exact .inl (by rw [h, hf]; simp)
      · exact .inr ⟨j, hj, by omega, by rw [e]⟩
    · rcases hcase with h | ⟨j, hj, e⟩
      · exact .inl (by rw [h, ha]; simp)
      · exact .inr ⟨j, hj, by omega, by rw [e]⟩
  | succ d ih =>
    intro k i hd hi hk
    obtain ⟨k, rfl⟩ : ∃ m, k = m + 1 := ⟨k - 1, by omega⟩
    have hlt : i < l.length := by omega
    simp only [sakialaw01_WideLeast.l0]
    rw [if_pos (by omega), if_pos (by omega), rd_at _ _ hlt]
    simp only [wide_Add_uint32.f, wide_Add_uint64.f, Option.bind_some]
    rw [if_pos (by simp; omega), if_pos (by simp; omega), wrap_succ (by omega) (by omega)]
    have := ih k (i + 1) (by omega) (by omega) (by omega)
    rw [List.take_succ_eq_append_getElem hlt] at this
    simp only [List.map_append, List.map_cons, List.map_nil] at this
    simp only [u64_wrap]
    exact this
theorem WideLeast (a : Int) (l : List Int) (ha : (Lit.int .u64 a).wf = true) (hl : ∀ x ∈ l, (Lit.int .i32 x).wf = true) : ∃ k, sakialaw01_WideLeast.f k a l = some true := by
  have hb : 0 ≤ a ∧ a < 18446744073709551616 := by
    simp [Lit.wf, IntKind.min, IntKind.max, IntKind.bits, IntKind.signed] at ha; omega
  refine ⟨l.length + 200, ?_⟩
  simp only [sakialaw01_WideLeast.f]
  by_cases hc : (l.length : Int) > 40
  · rw [if_pos hc, live_ok]; rfl
  · rw [if_neg hc]
    simp only [wide_Of_uint32.f, Option.bind_some]
    exact make_loop a (a % 4294967296) l hl (by omega) (by unfold p32; omega) (by unfold p64; omega) l.length (l.length + 200) 0 (by omega) (by omega) (by omega)
end Go.Proofs.Ytjaiodlfgpndoaa.Pure
