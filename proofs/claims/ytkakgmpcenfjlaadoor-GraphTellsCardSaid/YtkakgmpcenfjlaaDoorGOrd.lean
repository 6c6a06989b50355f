/- graph.Order walked: a stable insertion sort of the numbers of at most six consumers by their depth. -/
import Derived.Test.YtkakgmpcenfjlaaDoorGLive
import Derived.Deep.QuietTactic
import Derived.BigQuiet
set_option linter.unusedVariables false
set_option linter.unusedSimpArgs false
set_option maxRecDepth 100000
namespace Go.Proofs.YtkakgmpcenfjlaaDoor.Graph
open Go.RowKit Go.Proofs.YtkakgmpcenfjlaaDoorW.PrintWords Go.Proofs.YtkakgmpcenfjlaaDoorW.PrintLast
/-- A block of ints that begins with these numbers. -/
def RowN (W : World) (g : Nat) (xs : List Nat) : Prop := ∃ cl, W.heap[g]? = some (.cells cl 3 (0, 0)) ∧ ∀ j (h : j < xs.length), cl[j]? = some (.int .i64 ((xs[j] : Nat) : Int))
theorem RowN.cell {W : World} {g : Nat} {xs : List Nat} (h : RowN W g xs) (j : Nat) (hj : j < xs.length) : W.cell? ⟨g, j, none⟩ = some (.int .i64 ((xs[j] : Nat) : Int)) := by
  obtain ⟨cl, h1, h2⟩ := h
  rw [blk_cell h1 j]; exact h2 j hj
theorem RowN.frozen {W : World} {g : Nat} {xs : List Nat} (h : RowN W g xs) (j : Nat) : W.frozen? ⟨g, j, none⟩ = false := by
  obtain ⟨cl, h1, h2⟩ := h
  exact blk_frozen h1 j
theorem RowN.set {W : World} {g : Nat} {xs : List Nat} (h : RowN W g xs) (j x : Nat) (hj : j < xs.length) : RowN (W.setCell ⟨g, j, none⟩ (.int .i64 x)) g (xs.set j x) := by
  obtain ⟨cl, h1, h2⟩ := h
  refine ⟨_, blk_set h1 j (.int .i64 x), fun k hk => ?_⟩
  have hjc : j < cl.size := (Array.getElem?_eq_some_iff.1 (h2 j hj)).1
  rw [List.length_set] at hk
  rw [Array.getElem?_setIfInBounds]
  by_cases e : j = k
  · subst e; simp [hjc]
  · rw [if_neg e, h2 k hk]; simp [e]
/-- What Order's walk holds: the box of the lists, and the row of numbers. -/
structure OS (w0 W : World) (bu g : Nat) (A : Option Addr) (C : Nat) (up : List (List Int)) (xs : List Nat) : Prop where
  B : Below w0.heap.size w0 W
  box : W.heap[bu]? = some (.cells #[.slice A up.length C] 22 (0, 0))
  row : RowN W g xs
  gg : w0.heap.size ≤ g
  ne : bu ≠ g
theorem OS.drewN {w0 W : World} {bu g : Nat} {A : Option Addr} {C : Nat} {up : List (List Int)} {xs : List Nat} (h : OS w0 W bu g A C up xs) (m : Nat) : OS w0 (W.drewN m) bu g A C up xs :=
  ⟨pw_below_drewN h.B m, h.box, h.row, h.gg, h.ne⟩
theorem OS.set {w0 W : World} {bu g : Nat} {A : Option Addr} {C : Nat} {up : List (List Int)} {xs : List Nat} (h : OS w0 W bu g A C up xs) (j x : Nat) (hj : j < xs.length) : OS w0 (W.setCell ⟨g, j, none⟩ (.int .i64 x)) bu g A C up (xs.set j x) :=
  ⟨below_set h.B h.gg, (Below.heap_setCell W _ _ bu h.ne).trans h.box, h.row.set j x hj, h.gg, h.ne⟩
set_option maxHeartbeats 4000000 in
theorem cmp_ {w0 W : World} {bu g : Nat} {A : Option Addr} {C : Nat} {up : List (List Int)} {xs : List Nat} (hg : Gv w0 A C up) (hf : Fine up) (h : OS w0 W bu g A C up xs) (a b : Nat) (ha : a < up.length) (hb : b < up.length) :
    Calls Tryd.prog 38 #[.int .i64 a, .int .i64 b, .pointer (some ⟨bu, 0, none⟩)] W fun e w' => e = .returned (.int .i64 ((depth up a : Int) - (depth up b : Int))) ∧ ∃ m, w' = W.drewN m := by
  have hbox : W.cell? ⟨bu, 0, none⟩ = some (.slice A up.length C) := (blk_cell h.box 0).trans rfl
  have HA := Aside.mk (fun m => (depthR hg hf 7 a (by omega) ha (by have := rank_five hf ha; omega) (W.drewN m) (pw_below_drewN h.B m)).mono fun e w' hh => (⟨hh.1, hh.2.symm⟩ : e = .returned (.int .i64 (depth up a)) ∧ w' = W.drewN m))
  have HB := Aside.mk (fun m => (depthR hg hf 7 b (by omega) hb (by have := rank_five hf hb; omega) (W.drewN m) (pw_below_drewN h.B m)).mono fun e w' hh => (⟨hh.1, hh.2.symm⟩ : e = .returned (.int .i64 (depth up b)) ∧ w' = W.drewN m))
  have hw : IntKind.i64.wrap ((depth up a : Int) - (depth up b : Int)) = (depth up a : Int) - (depth up b : Int) := by
    rw [IntKind.wrap_i64]; have := depth_five hf ha; have := depth_five hf hb; omega
  clear h hg hf ha hb
  generalize depth up a = da at *
  generalize depth up b = db at *
  go_enter Tryd.func38, Tryd.ntmps38
  go_wp2_with fail
  go_quiet (first | (go_at_call 39; with_reducible refine Calls.quiet_of_same (HA.out _)) | (go_at_call 39; with_reducible refine Calls.quiet_of_same (HB.out _)))
  go_wp2
  go_ret
  exact ⟨rfl, _, rfl⟩
/-! ### sorted rows -/
def Lx (f : Nat → Nat) (a b : Nat) : Prop := f a < f b ∨ (f a = f b ∧ a < b)
def upto (i n : Nat) : List Nat := List.range' i (n - i)
theorem upto_cons {i n : Nat} (h : i < n) : upto i n = i :: upto (i + 1) n := by
  unfold upto
  rw [show n - i = (n - (i + 1)) + 1 by omega, List.range'_succ]
theorem upto_nil (n : Nat) : upto n n = [] := by simp [upto]
structure Srt (f : Nat → Nat) (i : Nat) (L : List Nat) : Prop where
  pw : L.Pairwise (Lx f)
  mem : ∀ x, x ∈ L ↔ x < i
  len : L.length = i
theorem Srt.insert {f : Nat → Nat} {i : Nat} {L1 L2 : List Nat} (h : Srt f i (L1 ++ L2)) (h2 : ∀ x ∈ L2, f i < f x) (h1 : L1 = [] ∨ ∃ L p, L1 = L ++ [p] ∧ f p ≤ f i) : Srt f (i + 1) (L1 ++ i :: L2) := by
  have hp := List.pairwise_append.1 h.pw
  refine ⟨List.pairwise_append.2 ⟨hp.1, List.pairwise_cons.2 ⟨fun x hx => .inl (h2 x hx), hp.2.1⟩, fun x hx y hy => ?_⟩, fun x => ?_, ?_⟩
  · rcases List.mem_cons.1 hy with rfl | hy
    · have hxi : x < y := (h.mem x).1 (List.mem_append_left _ hx)
      rcases h1 with rfl | ⟨L, p, rfl, hpi⟩
      · simp at hx
      · have hle : f x ≤ f p := by
          rcases List.mem_append.1 hx with hx | hx
          · rcases (List.pairwise_append.1 hp.1).2.2 x hx p (by simp) with h | h
            · omega
            · omega
          · simp at hx; subst hx; omega
        rcases Nat.lt_or_ge (f x) (f y) with h | h
        · exact .inl h
        · exact .inr ⟨by omega, hxi⟩
    · exact hp.2.2 x hx y hy
  · have hm := h.mem x
    simp only [List.mem_append, List.mem_cons] at hm ⊢
    constructor
    · rintro (h | rfl | h)
      · have := hm.1 (.inl h); omega
      · omega
      · have := hm.1 (.inr h); omega
    · intro hx
      by_cases e : x = i
      · exact .inr (.inl e)
      · rcases hm.2 (by omega) with h | h
        · exact .inl h
        · exact .inr (.inr h)
  · have := h.len
    simp only [List.length_append, List.length_cons] at this ⊢
    omega
theorem swap_ (L1 : List Nat) (p i : Nat) (R : List Nat) : ((L1 ++ p :: i :: R).set (L1.length + 1) p).set L1.length i = L1 ++ i :: p :: R := by
  rw [List.set_append_right _ _ (by omega), show L1.length + 1 - L1.length = 1 by omega]
  simp
theorem at0 (L1 : List Nat) (p : Nat) (R : List Nat) (h : L1.length < (L1 ++ p :: R).length) : (L1 ++ p :: R)[L1.length] = p := by simp
theorem at1 (L1 : List Nat) (p i : Nat) (R : List Nat) (h : L1.length + 1 < (L1 ++ p :: i :: R).length) : (L1 ++ p :: i :: R)[L1.length + 1] = i := by
  rw [List.getElem_append_right (by omega)]; simp
theorem snocN (o : List Nat) : o = [] ∨ ∃ p c, o = p ++ [c] := by
  cases o with
  | nil => exact .inl rfl
  | cons a o => exact .inr ⟨(a :: o).dropLast, (a :: o).getLast (by simp), (List.dropLast_concat_getLast (by simp)).symm⟩
set_option maxHeartbeats 8000000 in
theorem isort {w0 W : World} {bu g cap : Nat} {A : Option Addr} {C : Nat} {up : List (List Int)} (hg : Gv w0 A C up) (hf : Fine up) (h : OS w0 W bu g A C up (upto 0 up.length)) :
    Calls Tryd.prog 47 #[.slice (some ⟨g, 0, none⟩) up.length cap, .int .i64 0, .int .i64 up.length, .func (.func 38) #[] #[.pointer (some ⟨bu, 0, none⟩)]] W fun e w' => e = .returned (.tuple #[]) ∧ ∃ L, Srt (depth up) up.length L ∧ OS w0 w' bu g A C up L := by
  have HG := Aside.mk hg
  have HF := Aside.mk hf
  have HO0 := Aside.mk h
  clear hg hf h
  go_enter Tryd.func47, Tryd.ntmps47
  go_wp2_with fail
  go_loopw [8] (fun x wr => ∃ (i : Nat) (L : List Nat), 1 ≤ i ∧ i ≤ up.length ∧ x = .int .i64 i ∧ Aside (Srt (depth up) i L) ∧ Aside (OS w0 wr bu g A C up (L ++ upto i up.length))) (fun x _ => up.length - (intOf x).toNat)
  case atStart => exact ⟨1, [0], Nat.le_refl _, HF.out.n1, rfl, ⟨⟨by simp, fun x => by simp, rfl⟩⟩, ⟨by have := HO0.out; rw [upto_cons HF.out.n1] at this; exact this⟩⟩
  case round =>
    clear HO0
    obtain ⟨i, L, hi1, hi, rfl, HS, HO⟩ := hrel
    by_cases hlt : i < up.length
    · have t1 : decide ((i : Int) < (up.length : Int)) = true := decide_eq_true (by omega)
      have t2 : decide (i < up.length) = true := decide_eq_true hlt
      have HI := Aside.mk hlt
      have HI1 := Aside.mk hi1
      have ei := i1 (show i < 4611686018427387904 by have := HF.out.n6; omega)
      have HOL := Aside.mk (show OS w0 wr bu g A C up (L ++ i :: ([] ++ upto (i + 1) up.length)) by rw [List.nil_append, ← upto_cons hlt]; exact HO.out)
      clear hi hi1 hlt HO
      go_wp2_with fail
      clear t1 t2
      go_loopw [9] (fun x wr2 => ∃ (L1 L2 : List Nat), L1 ++ L2 = L ∧ x = .int .i64 L1.length ∧ (∀ y ∈ L2, depth up i < depth up y) ∧ Aside (OS w0 wr2 bu g A C up (L1 ++ i :: (L2 ++ upto (i + 1) up.length)))) (fun x _ => (intOf x).toNat)
      case atStart => exact ⟨L, [], by simp, by rw [HS.out.len], by simp, HOL⟩
      case round =>
        clear HOL
        obtain ⟨L1, L2, hL, rfl, h2, HO⟩ := hrel
        have H2 := Aside.mk h2
        clear h2
        rcases snocN L1 with rfl | ⟨L1, p, rfl⟩
        · have HS2 := Aside.mk (Srt.insert (L1 := []) (by rw [hL]; exact HS.out) H2.out (.inl rfl))
          clear hL
          go_wp2_with fail
          go_quiet (fail)
          generalize hW : World.drewN wr _ = w5
          have HO5 := Aside.mk (show OS w0 w5 bu g A C up ([] ++ i :: (L2 ++ upto (i + 1) up.length)) from hW ▸ HO.out.drewN _)
          clear hW HO
          go_wp2
          go_roundw
          case rel => exact ⟨i + 1, i :: L2, by omega, HI.out, by first | rfl | simp, HS2, HO5⟩
          case measure =>
            have := HI.out
            have e9 : ((i : Int) + 1).toNat = i + 1 := by omega
            simp only [intOf, e9, Int.toNat_natCast]
            omega
        · obtain ⟨k, hk⟩ : ∃ k, L1.length = k := ⟨_, rfl⟩
          have HKL := Aside.mk hk
          have hlen : (L1 ++ [p]).length = k + 1 := by simp [hk]
          have hpi : p < i := (HS.out.mem p).1 (by rw [← hL]; simp)
          have hki : k + 1 ≤ i := by have := HS.out.len; rw [← hL] at this; simp at this; omega
          obtain ⟨jj, hjj⟩ : ∃ jj : Int, (((L1 ++ [p]).length : Nat) : Int) = jj := ⟨_, rfl⟩
          obtain ⟨j1, hj1⟩ : ∃ j1 : Int, jj - 1 = j1 := ⟨_, rfl⟩
          have q1 : decide (0 < jj) = true := decide_eq_true (by omega)
          have q2 : 0 ≤ jj := by omega
          have q3 : jj < (up.length : Int) := by have := HI.out; omega
          have q4 : jj.toNat = k + 1 := by omega
          have q5 : IntKind.i64.wrap (jj - 1) = j1 := by rw [IntKind.wrap_i64]; have := HF.out.n6; omega
          have q6 : 0 ≤ j1 := by omega
          have q7 : j1 < (up.length : Int) := by omega
          have q8 : j1.toNat = k := by omega
          have HJ1 := Aside.mk (show j1 = (L1.length : Int) by omega)
          have HJJ := Aside.mk (show jj.toNat = k + 1 from q4)
          have HO1 := Aside.mk (show OS w0 wr bu g A C up (L1 ++ p :: i :: (L2 ++ upto (i + 1) up.length)) by have := HO.out; rw [List.append_assoc, List.singleton_append] at this; exact this)
          have hd1 : wr.cell? ⟨g, k, none⟩ = some (.int .i64 p) := HO1.out.row.cell k (by simp [hk]) |>.trans (by simp only [← hk]; rw [at0])
          have hd2 : wr.cell? ⟨g, k + 1, none⟩ = some (.int .i64 i) := HO1.out.row.cell (k + 1) (by simp [hk]) |>.trans (by simp only [← hk]; rw [at1])
          obtain ⟨dd, hdd⟩ : ∃ dd : Int, (depth up i : Int) - (depth up p : Int) = dd := ⟨_, rfl⟩
          have HC := Aside.mk (show ∀ m, Calls Tryd.prog 38 #[.int .i64 i, .int .i64 p, .pointer (some ⟨bu, 0, none⟩)] (wr.drewN m) fun e w'' => e = .returned (.int .i64 dd) ∧ ∃ m', w'' = wr.drewN m' from fun m =>
            (cmp_ HG.out HF.out (HO1.out.drewN m) i p HI.out (by have := HI.out; omega)).mono fun e w' ⟨he, m', hm⟩ => ⟨by rw [he, hdd], m + m', by rw [hm]; simp [World.drewN, Nat.add_assoc]⟩)
          have HLL := Aside.mk hL
          rw [hjj]
          by_cases hcmp : dd < 0
          · have q9 : decide (dd < 0) = true := decide_eq_true hcmp
            have HCM := Aside.mk (show depth up i < depth up p by omega)
            clear hL hk hlen hpi hki hjj hj1 hdd hcmp HO
            go_wp2_with fail
            go_quiet ((go_at_call 38; with_reducible exact HC.out _))
            generalize hW : World.drewN wr _ = w5
            have HO5 := Aside.mk (show OS w0 w5 bu g A C up (L1 ++ p :: i :: (L2 ++ upto (i + 1) up.length)) from hW ▸ HO1.out.drewN _)
            clear hW hd1 hd2 HC HO1
            go_wp2_with fail
            have hc1 : w5.cell? ⟨g, k, none⟩ = some (.int .i64 p) := HO5.out.row.cell k (by simp [HKL.out]) |>.trans (by simp only [← HKL.out]; rw [at0])
            have hc2 : w5.cell? ⟨g, k + 1, none⟩ = some (.int .i64 i) := HO5.out.row.cell (k + 1) (by simp [HKL.out]) |>.trans (by simp only [← HKL.out]; rw [at1])
            refine start_ (n := 18) (S := fun w' => w'.cell? ⟨g, k, none⟩ = some (.int .i64 p) ∧ w'.cell? ⟨g, k + 1, none⟩ = some (.int .i64 i)) (ds := [15, 17]) #[false, false, false, false, false, false, false, false, false, false, false, false, false, false, false, false, false, false] (by kernel_rfl) rfl rfl ⟨hc1, hc2⟩ (fun hHeld => ?_)
            have HO6 := Aside.mk (show OS w0 w5.drew bu g A C up (L1 ++ p :: i :: (L2 ++ upto (i + 1) up.length)) from HO5.out.drewN 1)
            clear hc1 hc2
            generalize w5.drew = w6 at hHeld HO6 ⊢
            refine pure_ (i := 0) (N := some 37) (v := ?_) (a' := ?_) #[true, false, false, false, false, false, false, false, false, false, false, false, false, false, false, false, false, false] rfl rfl (by kernel_rfl) (fun _ _ _ h => h) (Or.inl ⟨by rfl, ?_⟩) ?_ ?_
            rotate_left
            · intro w'
              go_simp
              with_reducible rfl
            rotate_left
            · simp only [Act.put, List.setIfInBounds_toArray, List.set_cons_zero, List.set_cons_succ, i64_w, i32_w]
              rfl
            refine pure_ (i := 1) (N := some 38) (v := ?_) (a' := ?_) #[true, true, false, false, false, false, false, false, false, false, false, false, false, false, false, false, false, false] rfl rfl (by kernel_rfl) (fun _ _ _ h => h) (Or.inl ⟨by rfl, ?_⟩) ?_ ?_
            rotate_left
            · intro w'
              go_simp
              with_reducible rfl
            rotate_left
            · simp only [Act.put, List.setIfInBounds_toArray, List.set_cons_zero, List.set_cons_succ, i64_w, i32_w]
              rfl
            refine pure_ (i := 2) (N := some 39) (v := ?_) (a' := ?_) #[true, true, true, false, false, false, false, false, false, false, false, false, false, false, false, false, false, false] rfl rfl (by kernel_rfl) (fun _ _ _ h => h) (Or.inl ⟨by rfl, ?_⟩) ?_ ?_
            rotate_left
            · intro w'
              go_simp
              with_reducible rfl
            rotate_left
            · simp only [Act.put, List.setIfInBounds_toArray, List.set_cons_zero, List.set_cons_succ, i64_w, i32_w]
              rfl
            refine pure_ (i := 3) (N := some 40) (v := ?_) (a' := ?_) #[true, true, true, true, false, false, false, false, false, false, false, false, false, false, false, false, false, false] rfl rfl (by kernel_rfl) (fun _ _ _ h => h) (Or.inl ⟨by rfl, ?_⟩) ?_ ?_
            rotate_left
            · intro w'
              go_simp
              with_reducible rfl
            rotate_left
            · simp only [Act.put, List.setIfInBounds_toArray, List.set_cons_zero, List.set_cons_succ, i64_w, i32_w]
              rfl
            refine pure_ (i := 4) (N := some 41) (v := ?_) (a' := ?_) #[true, true, true, true, true, false, false, false, false, false, false, false, false, false, false, false, false, false] rfl rfl (by kernel_rfl) (fun _ _ _ h => h) (Or.inl ⟨by rfl, ?_⟩) ?_ ?_
            rotate_left
            · intro w'
              go_simp
              with_reducible rfl
            rotate_left
            · simp only [Act.put, List.setIfInBounds_toArray, List.set_cons_zero, List.set_cons_succ, i64_w, i32_w]
              rfl
            refine pure_ (i := 5) (N := some 42) (v := ?_) (a' := ?_) #[true, true, true, true, true, true, false, false, false, false, false, false, false, false, false, false, false, false] rfl rfl (by kernel_rfl) (fun _ _ _ h => h) (Or.inl ⟨by rfl, ?_⟩) ?_ ?_
            rotate_left
            · intro w'
              go_simp
              with_reducible rfl
            rotate_left
            · simp only [Act.put, List.setIfInBounds_toArray, List.set_cons_zero, List.set_cons_succ, i64_w, i32_w]
              rfl
            refine pure_ (i := 6) (N := some 43) (v := ?_) (a' := ?_) #[true, true, true, true, true, true, true, false, false, false, false, false, false, false, false, false, false, false] rfl rfl (by kernel_rfl) (fun _ _ _ h => h) (Or.inl ⟨by rfl, ?_⟩) ?_ ?_
            rotate_left
            · intro w'
              go_simp
              with_reducible rfl
            rotate_left
            · simp only [Act.put, List.setIfInBounds_toArray, List.set_cons_zero, List.set_cons_succ, i64_w, i32_w]
              rfl
            refine pure_ (i := 7) (N := some 44) (v := ?_) (a' := ?_) #[true, true, true, true, true, true, true, true, false, false, false, false, false, false, false, false, false, false] rfl rfl (by kernel_rfl) (fun _ _ _ h => h) (Or.inl ⟨by rfl, ?_⟩) ?_ ?_
            rotate_left
            · intro w'
              go_simp
              with_reducible rfl
            rotate_left
            · simp only [Act.put, List.setIfInBounds_toArray, List.set_cons_zero, List.set_cons_succ, i64_w, i32_w]
              rfl
            refine pure_ (i := 10) (N := some 47) (v := ?_) (a' := ?_) #[true, true, true, true, true, true, true, true, false, false, true, false, false, false, false, false, false, false] rfl rfl (by kernel_rfl) (fun _ _ _ h => h) (Or.inl ⟨by rfl, ?_⟩) ?_ ?_
            rotate_left
            · intro w'
              go_simp
              with_reducible rfl
            rotate_left
            · simp only [Act.put, List.setIfInBounds_toArray, List.set_cons_zero, List.set_cons_succ, i64_w, i32_w]
              rfl
            refine pure_ (i := 11) (N := some 48) (v := ?_) (a' := ?_) #[true, true, true, true, true, true, true, true, false, false, true, true, false, false, false, false, false, false] rfl rfl (by kernel_rfl) (fun _ _ _ h => h) (Or.inl ⟨by rfl, ?_⟩) ?_ ?_
            rotate_left
            · intro w'
              go_simp
              with_reducible rfl
            rotate_left
            · simp only [Act.put, List.setIfInBounds_toArray, List.set_cons_zero, List.set_cons_succ, i64_w, i32_w]
              rfl
            refine pure_ (i := 8) (N := some 45) (v := ?_) (a' := ?_) #[true, true, true, true, true, true, true, true, true, false, true, true, false, false, false, false, false, false] rfl rfl (by kernel_rfl) (fun _ _ _ h => h) (Or.inl ⟨by rfl, ?_⟩) ?_ ?_
            rotate_left
            · intro w'
              go_simp
              with_reducible rfl
            rotate_left
            · simp only [Act.put, List.setIfInBounds_toArray, List.set_cons_zero, List.set_cons_succ, i64_w, i32_w]
              rfl
            refine take_ (i := 9) (N := some 46) (v := ?_) (a' := ?_) #[true, true, true, true, true, true, true, true, true, true, true, true, false, false, false, false, false, false] rfl rfl (by kernel_rfl) (fun _ _ _ h => h) (Or.inl ⟨by rfl, ?_⟩) hHeld ?_ ?_
            rotate_left
            · rintro w' ⟨s0, s1⟩
              go_simp
              with_reducible rfl
            rotate_left
            · simp only [Act.put, List.setIfInBounds_toArray, List.set_cons_zero, List.set_cons_succ, i64_w, i32_w]
              rfl
            refine pure_ (i := 12) (N := some 49) (v := ?_) (a' := ?_) #[true, true, true, true, true, true, true, true, true, true, true, true, true, false, false, false, false, false] rfl rfl (by kernel_rfl) (fun _ _ _ h => h) (Or.inl ⟨by rfl, ?_⟩) ?_ ?_
            rotate_left
            · intro w'
              go_simp
              with_reducible rfl
            rotate_left
            · simp only [Act.put, List.setIfInBounds_toArray, List.set_cons_zero, List.set_cons_succ, i64_w, i32_w]
              rfl
            refine take_ (i := 13) (N := some 50) (v := ?_) (a' := ?_) #[true, true, true, true, true, true, true, true, true, true, true, true, true, true, false, false, false, false] rfl rfl (by kernel_rfl) (fun _ _ _ h => h) (Or.inl ⟨by rfl, ?_⟩) hHeld ?_ ?_
            rotate_left
            · rintro w' ⟨s0, s1⟩
              go_simp
              with_reducible rfl
            rotate_left
            · simp only [Act.put, List.setIfInBounds_toArray, List.set_cons_zero, List.set_cons_succ, i64_w, i32_w]
              rfl
            refine pure_ (i := 14) (N := some 51) (v := ?_) (a' := ?_) #[true, true, true, true, true, true, true, true, true, true, true, true, true, true, true, false, false, false] rfl rfl (by kernel_rfl) (fun _ _ _ h => h) (Or.inl ⟨by rfl, ?_⟩) ?_ ?_
            rotate_left
            · intro w'
              go_simp
              with_reducible rfl
            rotate_left
            · simp only [Act.put, List.setIfInBounds_toArray, List.set_cons_zero, List.set_cons_succ, i64_w, i32_w]
              rfl
            refine last_ (i := 15) (N := none) #[true, true, true, true, true, true, true, true, true, true, true, true, true, true, true, true, false, false] rfl rfl (by kernel_rfl) (by decide) (fun K hK => ?_)
            have hs1 : w6.cell? ⟨g, k + 1, none⟩ = some (.int .i64 i) := hHeld.2
            have hf1 : w6.frozen? ⟨g, k + 1, none⟩ = false := HO6.out.row.frozen (k + 1)
            refine skip_ (w1 := ?_) (by rfl) rfl ?_ ?_
            rotate_left
            · go_simp
              rfl
            refine hK.out _ _ ?_
            clear hK K hs1 hf1
            have HO7 := Aside.mk (HO6.out.set (k + 1) p (by simp [HKL.out]))
            refine pure_ (i := 16) (N := some 52) (v := ?_) (a' := ?_) #[true, true, true, true, true, true, true, true, true, true, true, true, true, true, true, true, true, false] rfl rfl (by kernel_rfl) (fun _ _ _ h => h) (Or.inl ⟨by rfl, ?_⟩) ?_ ?_
            rotate_left
            · intro w'
              go_simp
              with_reducible rfl
            rotate_left
            · simp only [Act.put, List.setIfInBounds_toArray, List.set_cons_zero, List.set_cons_succ, i64_w, i32_w]
              rfl
            refine last_ (i := 17) (N := none) #[true, true, true, true, true, true, true, true, true, true, true, true, true, true, true, true, true, true] rfl rfl (by kernel_rfl) (by decide) (fun K hK => ?_)
            have hs2 : (w6.setCell ⟨g, k + 1, none⟩ (.int .i64 p)).cell? ⟨g, k, none⟩ = some (.int .i64 p) := HO7.out.row.cell k (by simp [HKL.out]) |>.trans (by simp [← HKL.out])
            have hf2 : (w6.setCell ⟨g, k + 1, none⟩ (.int .i64 p)).frozen? ⟨g, k, none⟩ = false := HO7.out.row.frozen k
            refine skip_ (w1 := ?_) (by rfl) rfl ?_ ?_
            rotate_left
            · go_simp
              rfl
            refine hK.out _ _ ?_
            clear hK K hs2 hf2
            have ho8 := HO7.out.set k i (by simp [HKL.out])
            rw [show ((L1 ++ p :: i :: (L2 ++ upto (i + 1) up.length)).set (k + 1) p).set k i = L1 ++ i :: ((p :: L2) ++ upto (i + 1) up.length) by rw [← HKL.out]; exact swap_ _ _ _ _] at ho8
            have HO8 := Aside.mk ho8
            clear ho8
            refine done_ (by kernel_rfl) ?_
            go_wp2
            go_roundw
            case rel => exact ⟨L1, p :: L2, by rw [← HLL.out]; simp, by rw [HJ1.out], fun y hy => by
              rcases List.mem_cons.1 hy with rfl | hy
              · exact HCM.out
              · exact H2.out y hy, HO8⟩
            case measure =>
              simp only [intOf]
              omega
          · have q9 : decide (dd < 0) = false := decide_eq_false hcmp
            have HS2 := Aside.mk (Srt.insert (by rw [hL]; exact HS.out) H2.out (.inr ⟨L1, p, rfl, by omega⟩))
            have HL2 := Aside.mk (show L1 ++ p :: i :: (L2 ++ upto (i + 1) up.length) = ((L1 ++ [p]) ++ i :: L2) ++ upto (i + 1) up.length by simp)
            clear hL hk hlen hpi hki hjj hj1 hdd hcmp HO
            go_wp2_with fail
            go_quiet ((go_at_call 38; with_reducible exact HC.out _))
            generalize hW : World.drewN wr _ = w5
            have HO5 := Aside.mk (show OS w0 w5 bu g A C up (L1 ++ p :: i :: (L2 ++ upto (i + 1) up.length)) from hW ▸ HO1.out.drewN _)
            clear hW hd1 hd2 HC HO1
            go_wp2
            go_roundw
            case rel => exact ⟨i + 1, (L1 ++ [p]) ++ i :: L2, by omega, HI.out, by first | rfl | simp, HS2, ⟨by rw [← HL2.out]; exact HO5.out⟩⟩
            case measure =>
              have := HI.out
              have e9 : ((i : Int) + 1).toNat = i + 1 := by omega
              simp only [intOf, e9, Int.toNat_natCast]
              omega
    · have t1 : decide ((i : Int) < (up.length : Int)) = false := decide_eq_false (by omega)
      have t2 : decide (i < up.length) = false := decide_eq_false hlt
      obtain rfl : i = up.length := by omega
      have HO2 := Aside.mk (show OS w0 wr bu g A C up L by have := HO.out; rw [upto_nil, List.append_nil] at this; exact this)
      clear hlt hi hi1 HO
      go_wp2
      refine bodyPost_end (v := .tuple #[]) (results_none rfl _ _ _) rfl ?_
      exact ⟨rfl, L, HS.out, HO2.out⟩
end Go.Proofs.YtkakgmpcenfjlaaDoor.Graph
