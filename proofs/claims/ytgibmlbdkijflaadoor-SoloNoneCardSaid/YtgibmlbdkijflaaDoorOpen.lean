/- From what reads as data to what the walks ask of cells: a value of a type, read, has the cells of its kind; kind by kind. -/
import Derived.Test.YtgibmlbdkijflaaDoorProg
import Derived.Test.YtgibmlbdkijflaaDoorWWords
import Derived.ProofKit
import Derived.OpenShut
import Derived.ChangeArms
import Derived.DataReads
import Derived.SizedLaws
set_option linter.unusedVariables false
namespace Go.Proofs.YtgibmlbdkijflaaDoor.Open
open Go.RowKit Go.Proofs.YtgibmlbdkijflaaDoorW.PrintWords
structure Reads {α : Type} (k : Kd α) (t : TypeId) (F : α → Prop) : Prop where
  mk :: (out : ∀ {H : Type} (enc : TypeId × Value → H) (W : World) (fuel : Nat) (cs : List Value) (x : DataW H × List MemPlace), DataW.trod enc Tryd.prog W 0 (fun _ => true) true fuel t cs = some x → ∃ y, k.K W y cs ∧ F y)
theorem reads_int {t : TypeId} {kk : IntKind} (hu : Tryd.prog.underlying t = some (.int kk)) : Reads (Kd.int kk) t (fun n => (Lit.int kk n).wf = true) :=
  ⟨fun enc W fuel cs x h => by
    obtain ⟨n, e, _, hw⟩ := DataW.trod_int hu h
    exact ⟨n, e, hw⟩⟩
theorem collect {α : Type} {P : Nat → α → Prop} : ∀ {len : Nat}, (∀ i, i < len → ∃ y, P i y) → ∃ l : List α, l.length = len ∧ ∀ i, i < len → ∃ y, l[i]? = some y ∧ P i y
  | 0, _ => ⟨[], rfl, fun i hi => by omega⟩
  | m + 1, key => by
    obtain ⟨l, hl, hg⟩ := collect (P := P) (len := m) (fun i hi => key i (by omega))
    obtain ⟨y, h1⟩ := key m (Nat.lt_succ_self m)
    refine ⟨l ++ [y], by simp [hl], fun i hi => ?_⟩
    by_cases him : i = m
    · subst him
      exact ⟨y, by rw [← hl]; simp, h1⟩
    · obtain ⟨y', g, r⟩ := hg i (by omega)
      exact ⟨y', by rw [List.getElem?_append_left (by omega)]; exact g, r⟩
theorem reads_slice {α : Type} {k : Kd α} {t e : TypeId} {F : α → Prop} (hu : Tryd.prog.underlying t = some (.slice e)) (hc : Tryd.prog.cellsOf e = k.sz) (h : Reads k e F) :
    Reads (Kd.slice e k) t (fun l => l.length ≤ 9223372036854775807 ∧ ∀ y ∈ l, F y) :=
  ⟨fun enc W fuel cs x hx => by
    rcases DataW.trod_slice hu hx with ⟨rfl, _⟩ | ⟨a, len, cap, elems, rest, n, _, rfl, _, _, hlc, hcm, hel, hat, _, _⟩
    · exact ⟨[], ⟨none, 0, rfl, Nat.le_refl _, rfl, by simp, fun h0 => absurd h0 (by simp)⟩, by simp, fun y hy => by simp at hy⟩
    · have hm : len ≤ 9223372036854775807 := by simp only [maxLen] at hcm; omega
      have key : ∀ i, i < len → ∃ y c, c.length = k.sz ∧ k.K W y c ∧ F y ∧ ∀ j u, c[j]? = some u → W.cell? (a.add (i * k.sz + j)) = some u := by
        intro i hi
        have h1 := hat i hi
        obtain ⟨xi, ex⟩ : ∃ xi, elems[i]? = some xi := ⟨_, List.getElem?_eq_getElem (by omega)⟩
        rw [ex] at h1
        obtain ⟨c, hcell, htr⟩ := Option.bind_eq_some_iff.1 h1
        obtain ⟨y, hK, hF⟩ := h.out enc W n c xi htr
        obtain ⟨_, hl, hcs⟩ := World.cells?_some hcell
        refine ⟨y, c, k.K_len hK, hK, hF, fun j u hj => ?_⟩
        have hjl : j < c.length := (List.getElem?_eq_some_iff.1 hj).1
        have := hcs j (by omega)
        rw [hj, hc] at this
        rw [add_add] at this
        exact this
      obtain ⟨l, hl, hget⟩ := collect key
      subst hl
      refine ⟨l, ⟨some a, cap, rfl, hlc, rfl, hm, fun _ => ⟨a, rfl, fun j p hp => ?_⟩⟩, hm, fun y hy => ?_⟩
      · have hj : j < l.length := (List.getElem?_eq_some_iff.1 hp).1
        obtain ⟨y, g, c, r1, r2, _, r4⟩ := hget j hj
        rw [hp] at g
        obtain rfl := Option.some.inj g
        exact ⟨c, r1, r2, r4⟩
      · obtain ⟨i, hi, rfl⟩ := List.mem_iff_getElem.1 hy
        obtain ⟨y', g, c, _, _, r3, _⟩ := hget i hi
        rw [List.getElem?_eq_getElem hi] at g
        obtain rfl := Option.some.inj g
        exact r3⟩
structure FReads {α : Type} (k : Kd α) (fs : List (TypeId × Nat)) (off : Nat) (F : α → Prop) : Prop where
  mk :: (out : ∀ {H : Type} (enc : TypeId × Value → H) (W : World) (n : Nat) (cs : List Value), (∀ f ∈ fs, ∃ x, DataW.trod enc Tryd.prog W 0 (fun _ => true) true n f.1 ((cs.drop f.2).take (Tryd.prog.cellsOf f.1)) = some x) → ∃ y, k.K W y ((cs.drop off).take k.sz) ∧ F y)
theorem freads_one {α : Type} {k : Kd α} {t : TypeId} {off : Nat} {F : α → Prop} (hc : Tryd.prog.cellsOf t = k.sz) (h : Reads k t F) : FReads k [(t, off)] off F :=
  ⟨fun enc W n cs hx => by
    obtain ⟨x, e⟩ := hx _ (List.mem_singleton.2 rfl)
    have := h.out enc W n _ x e
    simp only [hc] at this
    exact this⟩
theorem freads_cons {α β : Type} {k : Kd α} {k' : Kd β} {t : TypeId} {fs : List (TypeId × Nat)} {off off' : Nat} {F : α → Prop} {F' : β → Prop} (hc : Tryd.prog.cellsOf t = k.sz) (he : off + k.sz = off') (h : Reads k t F) (h' : FReads k' fs off' F') :
    FReads (Kd.pair k k') ((t, off) :: fs) off (fun p => F p.1 ∧ F' p.2) :=
  ⟨fun enc W n cs hx => by
    obtain ⟨x, e⟩ := hx _ (List.mem_cons_self ..)
    obtain ⟨y, hK, hF⟩ := h.out enc W n _ x e
    obtain ⟨y', hK', hF'⟩ := h'.out enc W n cs (fun f hf => hx f (List.mem_cons_of_mem _ hf))
    simp only [hc] at hK
    subst he
    refine ⟨(y, y'), ⟨_, _, ?_, hK, hK'⟩, hF, hF'⟩
    show (cs.drop off).take (k.sz + k'.sz) = _
    rw [List.take_add, List.drop_drop]⟩
theorem reads_struct {α : Type} {k : Kd α} {t : TypeId} {fs : Array Field} {F : α → Prop} (hu : Tryd.prog.underlying t = some (.struct fs)) (hc : Tryd.prog.cellsOf t = k.sz) (h : FReads k (fs.toList.map fun f => (f.type, f.offset)) 0 F) : Reads k t F :=
  ⟨fun enc W fuel cs x hx => by
    obtain ⟨xs, n, _, _, hl, hxl, hg⟩ := DataW.trod_struct hu hx
    obtain ⟨y, hK, hF⟩ := h.out enc W n cs (fun f hf => by
      obtain ⟨g, hg1, rfl⟩ := List.mem_map.1 hf
      obtain ⟨i, hi, e⟩ := List.mem_iff_getElem.1 hg1
      have hi' : i < fs.size := by simpa using hi
      have := hg i g (by rw [Array.getElem?_eq_getElem hi']; simpa using e)
      rw [List.getElem?_eq_getElem (by omega)] at this
      exact ⟨_, this⟩)
    rw [List.drop_zero, List.take_of_length_le (by omega)] at hK
    exact ⟨y, hK, hF⟩⟩
theorem reads_iso {α β : Type} {k : Kd α} {t : TypeId} {F : α → Prop} (f : β → α) (hf : ∀ a, ∃ b, f b = a) (h : Reads k t F) : Reads (Kd.iso k f) t (fun b => F (f b)) :=
  ⟨fun enc W fuel cs x hx => by
    obtain ⟨y, hK, hF⟩ := h.out enc W fuel cs x hx
    obtain ⟨b, rfl⟩ := hf y
    exact ⟨b, hK, hF⟩⟩
theorem Reads.mono {α : Type} {k : Kd α} {t : TypeId} {F F' : α → Prop} (h : Reads k t F) (hF : ∀ y, F y → F' y) : Reads k t F' :=
  ⟨fun enc W fuel cs x hx => by
    obtain ⟨y, hK, hy⟩ := h.out enc W fuel cs x hx
    exact ⟨y, hK, hF y hy⟩⟩
theorem arg_slice {α : Type} {k : Kd α} {t e : TypeId} {F : List α → Prop} (hr : Reads (Kd.slice e k) t F) {H : Type} {enc : TypeId × Value → H} {W : World} {v : Value} {d : DataW H} {ps : List MemPlace} (hv : ∃ a l c, v = .slice a l c) (h : DataW.Trod enc Tryd.prog W 0 (fun _ => true) true t v d ps) :
    ∃ A c l, v = .slice A l.length c ∧ l.length ≤ c ∧ Kd.C k W A l.length l ∧ F l := by
  obtain ⟨fuel, hf⟩ := h
  obtain ⟨l, ⟨A, c, e, h1, h2⟩, hF⟩ := hr.out enc W fuel _ _ hf
  obtain ⟨a, n, c', rfl⟩ := hv
  simp [Value.cells] at e
  obtain ⟨rfl, rfl, rfl⟩ := e
  exact ⟨_, _, l, rfl, h1, h2, hF⟩
theorem arg_agg {α : Type} {k : Kd α} {t : TypeId} {F : α → Prop} (hr : Reads k t F) {H : Type} {enc : TypeId × Value → H} {W : World} {cs : Array Value} {d : DataW H} {ps : List MemPlace} (h : DataW.Trod enc Tryd.prog W 0 (fun _ => true) true t (.agg cs) d ps) :
    ∃ y, k.K W y (Value.agg cs).cells.toList ∧ F y := by
  obtain ⟨fuel, hf⟩ := h
  exact hr.out enc W fuel _ _ hf
end Go.Proofs.YtgibmlbdkijflaaDoor.Open
