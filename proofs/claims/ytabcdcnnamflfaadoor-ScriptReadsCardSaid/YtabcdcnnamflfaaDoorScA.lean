/- The program's variant of a word, and the act of a line: walked. Asked: the library's variables lie as laid. -/
import Derived.Test.YtabcdcnnamflfaaDoorScL
import Derived.Test.YtabcdcnnamflfaaDoorWdH
set_option linter.unusedVariables false
set_option linter.unusedSimpArgs false
set_option maxRecDepth 100000
namespace Go.Proofs.YtabcdcnnamflfaaDoor.Wd
open Go.RowKit Go.Proofs.YtabcdcnnamflfaaDoorW.PrintWords Go.Proofs.YtabcdcnnamflfaaDoorW.PrintLast Go.Proofs.YtabcdcnnamflfaaDoorW.PrintMore
/-! ### variants -/
def varV : Array Value := #[.string (⟨#[]⟩ : ByteArray), .string (⟨#[111, 110, 101]⟩ : ByteArray), .string (⟨#[99, 97, 115]⟩ : ByteArray), .string (⟨#[102, 97, 97]⟩ : ByteArray), .string (⟨#[115, 116, 97, 109, 112]⟩ : ByteArray), .string (⟨#[108, 111, 99, 107]⟩ : ByteArray)]
theorem varAt0 (w : World) : (Instr.index 109 (.agg varV) (.int .i64 0)).run Tryd.prog w = .ok (.string (⟨#[]⟩ : ByteArray)) w := by kernel_rfl
theorem varAt1 (w : World) : (Instr.index 109 (.agg varV) (.int .i64 1)).run Tryd.prog w = .ok (.string (⟨#[111, 110, 101]⟩ : ByteArray)) w := by kernel_rfl
theorem varAt2 (w : World) : (Instr.index 109 (.agg varV) (.int .i64 2)).run Tryd.prog w = .ok (.string (⟨#[99, 97, 115]⟩ : ByteArray)) w := by kernel_rfl
theorem varAt3 (w : World) : (Instr.index 109 (.agg varV) (.int .i64 3)).run Tryd.prog w = .ok (.string (⟨#[102, 97, 97]⟩ : ByteArray)) w := by kernel_rfl
theorem varAt4 (w : World) : (Instr.index 109 (.agg varV) (.int .i64 4)).run Tryd.prog w = .ok (.string (⟨#[115, 116, 97, 109, 112]⟩ : ByteArray)) w := by kernel_rfl
theorem varAt5 (w : World) : (Instr.index 109 (.agg varV) (.int .i64 5)).run Tryd.prog w = .ok (.string (⟨#[108, 111, 99, 107]⟩ : ByteArray)) w := by kernel_rfl
theorem varTab (w : World) : Calls Tryd.prog 79 #[] w fun e w' => e = .returned (.agg varV) ∧ Below w.heap.size w w' := by
  go_enter Tryd.func79, Tryd.ntmps79
  go_wp2
  refine bodyPost_ret (v := .agg varV) (by simp [results, Tryd.results79, go_sem]; rfl) rfl ⟨rfl, ?_⟩
  exact below_alloc (Below.refl _ _) _
def varOfS (s : ByteArray) : Int := if (([111, 110, 101] : List UInt8) == s.toList) = true then 1 else if (([99, 97, 115] : List UInt8) == s.toList) = true then 2 else if (([102, 97, 97] : List UInt8) == s.toList) = true then 3 else if (([115, 116, 97, 109, 112] : List UInt8) == s.toList) = true then 4 else if (([108, 111, 99, 107] : List UInt8) == s.toList) = true then 5 else 0
theorem varOfS_eq (s : ByteArray) : varOfS s = varOf s.data.toList := by
  unfold varOfS varOf
  simp only [eqT, decide_eq_true_eq]
theorem varOfS_empty {s : ByteArray} (h : s.toList.isEmpty = true) : varOfS s = 0 := by
  have e : s.toList = [] := by simpa using h
  unfold varOfS
  rw [e]
  rfl
theorem findS (s : ByteArray) (w : World) : Calls Tryd.prog 57 #[.string s] w fun e w' => e = .returned (.int .i64 (varOfS s)) ∧ Below w.heap.size w w' := by
  have hi0 := varAt0
  have hi1 := varAt1
  have hi2 := varAt2
  have hi3 := varAt3
  have hi4 := varAt4
  have hi5 := varAt5
  go_enter Tryd.func57, Tryd.ntmps57
  go_wp2_with (go_at_call 79; refine (varTab _).mono ?_; rintro e w1 ⟨rfl, hb⟩)
  refine wp_loop_rounds 7 ?_
  rw [rounds_succ]
  go_wp2
  · go_ret
    exact ⟨EvWords.ret_int (varOfS_empty (by assumption)).symm, hb⟩
  rw [rounds_succ]
  go_wp2
  · go_ret
    exact ⟨EvWords.ret_int (by simp [varOfS, *]), hb⟩
  rw [rounds_succ]
  go_wp2
  · go_ret
    exact ⟨EvWords.ret_int (by simp [varOfS, *]), hb⟩
  rw [rounds_succ]
  go_wp2
  · go_ret
    exact ⟨EvWords.ret_int (by simp [varOfS, *]), hb⟩
  rw [rounds_succ]
  go_wp2
  · go_ret
    exact ⟨EvWords.ret_int (by simp [varOfS, *]), hb⟩
  rw [rounds_succ]
  go_wp2
  · go_ret
    exact ⟨EvWords.ret_int (by simp [varOfS, *]), hb⟩
  rw [rounds_succ]
  go_wp2
  go_ret
  exact ⟨EvWords.ret_int (by simp [varOfS, *]), hb⟩
theorem find_ (s : List UInt8) (w : World) : Calls Tryd.prog 57 #[.string (bs s)] w fun e w' => e = .returned (.int .i64 (varOf s)) ∧ Below w.heap.size w w' := by
  have h := findS (bs s) w
  rwa [varOfS_eq, bs_data] at h
/-! ### numbers in a row of their own type's cells -/
theorem add_offS (g off j : Nat) : (⟨g, off, none⟩ : Addr).add j = ⟨g, off + j, none⟩ := by
  cases j <;> simp [Addr.add]
/-- Numbers in a row of their own type's cells, read. -/
def NumS (w : World) (A : Option Addr) (l : List Int) : Prop := l ≠ [] → ∃ g off cl, A = some ⟨g, off, none⟩ ∧ w.heap[g]? = some (.cells cl 3 (0, 0)) ∧ ∀ (j : Nat) (h : j < l.length), cl[off + j]? = some (.int .i64 l[j])
theorem NumS.below {w w' : World} {A : Option Addr} {l : List Int} (h : NumS w A l) (b : Below w.heap.size w w') : NumS w' A l := fun hn => by
  obtain ⟨g, off, cl, e, hb, hc⟩ := h hn
  exact ⟨g, off, cl, e, blk_below hb b, hc⟩
theorem NumS.grown {w w' : World} {A : Option Addr} {l : List Int} {row : Option Nat} (h : NumS w A l) (hg : w.grownBy w' row) (hne : ∀ g cl, w.heap[g]? = some (.cells cl 3 (0, 0)) → some g ≠ row) : NumS w' A l := fun hn => by
  obtain ⟨g, off, cl, e, hb, hc⟩ := h hn
  exact ⟨g, off, cl, e, blk_grown hb hg (hne g cl hb), hc⟩
theorem NumS.set {w : World} {A : Option Addr} {l : List Int} {B : Nat} {cs : Array Value} {t : TypeId} (h : NumS w A l) (hb : w.heap[B]? = some (.cells cs t (0, 0))) (ht : t ≠ 3) (i : Nat) (u : Value) : NumS (w.setCell ⟨B, i, none⟩ u) A l := fun hn => by
  obtain ⟨g, off, cl, e, hg, hc⟩ := h hn
  exact ⟨g, off, cl, e, blk_far hg (fun e2 => blk_ne hg hb (fun e3 => ht e3.symm) e2) u, hc⟩
theorem NumS.c {w : World} {A : Option Addr} {l : List Int} (h : NumS w A l) (hl : l.length ≤ 1000000) : (Kd.int .i64).C w A l.length l :=
  ⟨rfl, by omega, fun h0 => by
    obtain ⟨g, off, cl, e, hg, hc⟩ := h (fun e => by rw [e] at h0; simp at h0)
    refine ⟨_, e, fun j p hp => ⟨[.int .i64 p], rfl, rfl, fun i u hu => ?_⟩⟩
    obtain ⟨rfl, rfl⟩ : i = 0 ∧ .int .i64 p = u := by cases i with
      | zero => simpa using hu
      | succ i => simp at hu
    obtain ⟨hj, rfl⟩ := List.getElem?_eq_some_iff.1 hp
    have h2 := blk_cell hg (off + j)
    rw [hc j hj] at h2
    show w.cell? (Addr.add ⟨g, off, none⟩ (j * 1 + 0)) = _
    rw [Nat.mul_one, Nat.add_zero, add_offS]
    exact h2⟩
theorem numS_of_R {w : World} {base : Nat} {v : Value} {l : List Int} (h : Kd.R (Kd.int .i64) 3 w base (fun _ => True) v l) : ∃ A c, v = .slice A l.length c ∧ l.length ≤ c ∧ NumS w A l := by
  obtain ⟨A, c, hv, hc, _⟩ := Kd.R_reads h
  refine ⟨A, c, hv, hc, fun hn => ?_⟩
  obtain ⟨h1, ⟨h2, h3⟩ | ⟨g, cap, cur, hv2, hg, hb, hc, hm, hs, ht⟩⟩ := Kd.own_of_R h
  · exact absurd (List.eq_nil_of_length_eq_zero (by simpa using h3)) hn
  · rw [hv] at hv2
    injection hv2 with e1 e2 e3
    refine ⟨g, 0, cur, e1, hb, fun j hj => ?_⟩
    rw [Nat.mul_one] at ht
    have e := congrArg (fun l : List Value => l[j]?) ht
    simp only [List.getElem?_take, hj, if_true, encs, List.getElem?_map, List.getElem?_eq_getElem hj, Option.map_some] at e
    rw [Array.getElem?_toList] at e
    rw [Nat.zero_add]
    exact e
/-! ### an act -/
def resA (s : List UInt8) : Bool := lineB s && actG (wordsOf s)
def valA (s : List UInt8) : Ac := if resA s = true then actV (wordsOf s) else ⟨0, 0, 0, []⟩
def cntA (s : List UInt8) : Int := if resA s = true then actN (wordsOf s) else 0
theorem resA_no {s : List UInt8} (h : resA s = false) : valA s = ⟨0, 0, 0, []⟩ ∧ cntA s = 0 := by
  unfold valA cntA
  rw [if_neg (by rw [h]; decide), if_neg (by rw [h]; decide)]
  exact ⟨rfl, rfl⟩
theorem resA_yes {s : List UInt8} (h : resA s = true) : valA s = actV (wordsOf s) ∧ cntA s = actN (wordsOf s) := by
  unfold valA cntA
  rw [if_pos h, if_pos h]
  exact ⟨rfl, rfl⟩
theorem blk_cell4 {w : World} {g : Nat} {c0 c1 c2 c3 : Value} {t : TypeId} (h : w.heap[g]? = some (.cells #[c0, c1, c2, c3] t (0, 0))) :
    w.cell? ⟨g, 0, none⟩ = some c0 ∧ w.cell? ⟨g, 1, none⟩ = some c1 ∧ w.cell? ⟨g, 2, none⟩ = some c2 ∧ w.cell? ⟨g, 3, none⟩ = some c3 ∧ w.frozen? ⟨g, 0, none⟩ = false ∧ w.frozen? ⟨g, 1, none⟩ = false ∧ w.frozen? ⟨g, 2, none⟩ = false ∧ w.frozen? ⟨g, 3, none⟩ = false := by
  refine ⟨?_, ?_, ?_, ?_, ?_, ?_, ?_, ?_⟩ <;> simp [World.cell?, World.frozen?, h]
/-- A result's cells, laid one by one. -/
theorem fin50 {w0 w : World} {R : Nat} {a0 a1 a2 a3 : Value} (v0 v1 v2 v3 : Value) (b : Below w0.heap.size w0 w) (hR : w0.heap.size ≤ R) (h : w.heap[R]? = some (.cells #[a0, a1, a2, a3] 50 (0, 0))) :
    ((((w.setCell ⟨R, 0, none⟩ v0).setCell ⟨R, 1, none⟩ v1).setCell ⟨R, 2, none⟩ v2).setCell ⟨R, 3, none⟩ v3).heap[R]? = some (.cells #[v0, v1, v2, v3] 50 (0, 0)) ∧ Below w0.heap.size w0 ((((w.setCell ⟨R, 0, none⟩ v0).setCell ⟨R, 1, none⟩ v1).setCell ⟨R, 2, none⟩ v2).setCell ⟨R, 3, none⟩ v3) ∧ ∀ A l, NumS w A l → NumS ((((w.setCell ⟨R, 0, none⟩ v0).setCell ⟨R, 1, none⟩ v1).setCell ⟨R, 2, none⟩ v2).setCell ⟨R, 3, none⟩ v3) A l := by
  have k0 := blk_put (cs' := #[v0, a1, a2, a3]) h 0 v0 rfl
  have k1 := blk_put (cs' := #[v0, v1, a2, a3]) k0 1 v1 rfl
  have k2 := blk_put (cs' := #[v0, v1, v2, a3]) k1 2 v2 rfl
  have k3 := blk_put (cs' := #[v0, v1, v2, v3]) k2 3 v3 rfl
  exact ⟨k3, ((((b.setCell hR _).setCell hR _).setCell hR _).setCell hR _), fun A l hn => (((hn.set h (by decide) 0 _).set k0 (by decide) 1 _).set k1 (by decide) 2 _).set k2 (by decide) 3 _⟩
/-- What ParseAct answers. -/
structure ActRes (s : List UInt8) (w w' : World) (e : Ending) : Prop where mk :: (out : ∃ A c, e = .returned (.tuple #[.agg #[.int .i64 (valA s).thread, .int .i64 (valA s).op, .int .i64 (valA s).n, .slice A (valA s).data.length c], .int .i64 (cntA s), .bool (resA s)]) ∧ (valA s).data.length ≤ c ∧ NumS w' A (valA s).data ∧ Below w.heap.size w w')
theorem actRes_no {s : List UInt8} {w w' : World} (h : resA s = false) (b : Below w.heap.size w w') : ActRes s w w' (.returned (.tuple #[.agg #[.int .i64 0, .int .i64 0, .int .i64 0, .slice none 0 0], .int .i64 0, .bool false])) := by
  obtain ⟨h1, h2⟩ := resA_no h
  exact ⟨none, 0, by rw [h1, h2, h]; rfl, by rw [h1]; exact Nat.le_refl _, by rw [h1]; exact fun hn => absurd rfl hn, b⟩
theorem actRes_yes {s : List UInt8} {w w' : World} {A : Option Addr} {c : Nat} (h : resA s = true) {t o n m : Int} {d : List Int} (e1 : (actV (wordsOf s)) = ⟨t, o, n, d⟩) (e2 : actN (wordsOf s) = m) (hc : d.length ≤ c) (hn : NumS w' A d) (b : Below w.heap.size w w') : ActRes s w w' (.returned (.tuple #[.agg #[.int .i64 t, .int .i64 o, .int .i64 n, .slice A d.length c], .int .i64 m, .bool true])) := by
  obtain ⟨h1, h2⟩ := resA_yes h
  exact ⟨A, c, by rw [h1, h2, h, e1, e2], by rw [h1, e1]; exact hc, by rw [h1, e1]; exact hn, b⟩
end Go.Proofs.YtabcdcnnamflfaaDoor.Wd
