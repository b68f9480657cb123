/- Written by wip/pr.py of this session, for the law FnExactSortMarks: Lean functions with the answers of the program's, and the proofs of that; where the kit's print has no word, by hand. -/
import Derived.Test.YtaeaeejfaffbpaaHFnExactSortMarksx0
import Derived.Test.YtaeaeejfaffbpaaHFnExactSortMarksx3
import Derived.Test.YtaeaeejfaffbpaaHFnExactSortMarksx4
import Derived.Test.YtaeaeejfaffbpaaHFnExactSortMarksx5
import Derived.Test.YtaeaeejfaffbpaaHFnExactSortMarksx7
namespace Go.Proofs.Ytaeaeejfaffbpaa.HFnExactSortMarks
open Go.RowKit Go.Proofs.YtaeaeejfaffbpaaW.PrintWords Go.Proofs.YtaeaeejfaffbpaaW.PrintLast Go.Proofs.YtaeaeejfaffbpaaW.PrintMore
attribute [local go_sem] max2_int min2_int max_two min_two max_three min_three max_four min_four   -- for this text's walks alone
set_option linter.unusedVariables false
set_option linter.unusedSimpArgs false

/-! sorting marks: lists -/
def passM (r y : Int) : Bool := decide ((768 ≤ r ∧ r ≤ 879) ∧ ordV r < ordV y)
def insR (r : Int) : List Int → List Int
  | [] => [r]
  | y :: ys => if passM r y = true then y :: insR r ys else r :: y :: ys
def insM (l : List Int) (r : Int) : List Int := (insR r l.reverse).reverse
def sortM (l : List Int) : List Int := l.foldl insM []
theorem ordV_nonneg (r : Int) : 0 ≤ ordV r := by unfold ordV; split <;> omega
theorem ordV_zero {r : Int} : ordV r = 0 ↔ ¬ (768 ≤ r ∧ r ≤ 879) := by unfold ordV; split <;> omega
theorem insR_length (r : Int) : ∀ l : List Int, (insR r l).length = l.length + 1
  | [] => rfl
  | y :: ys => by
    unfold insR
    split
    · simp [insR_length r ys]
    · simp
theorem insM_length (l : List Int) (r : Int) : (insM l r).length = l.length + 1 := by simp [insM, insR_length]
theorem foldl_insM_length : ∀ (l s : List Int), (l.foldl insM s).length = s.length + l.length
  | [], s => by simp
  | x :: xs, s => by rw [List.foldl_cons, foldl_insM_length xs, insM_length, List.length_cons]; omega
theorem sortM_length (l : List Int) : (sortM l).length = l.length := by simp [sortM, foldl_insM_length]
/-- Nothing goes past what stands at the end. -/
def Stop (a : List Int) : Prop := ∀ y, a.getLast? = some y → ordV y = 0
theorem insR_append (r : Int) (ys : List Int) (h : ∀ y, ys.head? = some y → passM r y = false) : ∀ xs : List Int, insR r (xs ++ ys) = insR r xs ++ ys
  | [] => by
    cases ys with
    | nil => rfl
    | cons y ys =>
      show (if passM r y = true then y :: insR r ys else r :: y :: ys) = _
      rw [h y rfl]
      rfl
  | x :: xs => by
    show (if passM r x = true then x :: insR r (xs ++ ys) else r :: x :: (xs ++ ys)) = (if passM r x = true then x :: insR r xs else r :: x :: xs) ++ ys
    rw [insR_append r ys h xs]
    split <;> rfl
theorem insM_append {a : List Int} (h : Stop a) (b : List Int) (r : Int) : insM (a ++ b) r = a ++ insM b r := by
  unfold insM
  rw [List.reverse_append, insR_append r a.reverse ?_ b.reverse, List.reverse_append, List.reverse_reverse]
  intro y hy
  rw [List.head?_reverse] at hy
  have h0 := h y hy
  have h1 := ordV_nonneg r
  unfold passM
  rw [decide_eq_false_iff_not]
  omega
theorem foldl_insM_append {a : List Int} (h : Stop a) : ∀ (l b : List Int), l.foldl insM (a ++ b) = a ++ l.foldl insM b
  | [], b => rfl
  | x :: xs, b => by rw [List.foldl_cons, List.foldl_cons, insM_append h, foldl_insM_append h xs]
theorem sortM_append {a : List Int} (h : Stop (sortM a)) (b : List Int) : sortM (a ++ b) = sortM a ++ sortM b := by
  have e := foldl_insM_append h b []
  rw [List.append_nil] at e
  unfold sortM at *
  rw [List.foldl_append, e]
theorem insM_non {x : Int} (h : ¬ (768 ≤ x ∧ x ≤ 879)) (l : List Int) : insM l x = l ++ [x] := by
  unfold insM
  have e := insR_append x l.reverse (fun y _ => by unfold passM; rw [decide_eq_false_iff_not]; exact fun k => h k.1) []
  rw [List.nil_append] at e
  rw [e]
  simp [insR]
theorem sortM_snoc {x : Int} (h : ¬ (768 ≤ x ∧ x ≤ 879)) (l : List Int) : sortM (l ++ [x]) = sortM l ++ [x] := by
  unfold sortM
  rw [List.foldl_append, List.foldl_cons, List.foldl_nil, insM_non h]
theorem stop_snoc {x : Int} (h : ¬ (768 ≤ x ∧ x ≤ 879)) (l : List Int) : Stop (l ++ [x]) := by
  intro y hy
  rw [List.getLast?_append, List.getLast?_singleton, Option.some_or] at hy
  cases hy
  exact ordV_zero.2 h
/-! the same on elements with their places -/
def tagL : Nat → List Int → List TI
  | _, [] => []
  | n, x :: xs => ⟨x, n⟩ :: tagL (n + 1) xs
theorem tagL_length : ∀ (n : Nat) (l : List Int), (tagL n l).length = l.length
  | _, [] => rfl
  | n, x :: xs => by simp [tagL, tagL_length (n + 1) xs]
theorem tagL_get : ∀ (n : Nat) (l : List Int) (i : Nat) (h : i < l.length), (tagL n l)[i]? = some ⟨l[i], n + i⟩
  | n, x :: xs, 0, _ => rfl
  | n, x :: xs, i + 1, h => by
    have := tagL_get (n + 1) xs i (by simpa using h)
    simp only [tagL, List.getElem?_cons_succ, List.getElem_cons_succ, this, show n + 1 + i = n + (i + 1) from by omega]
theorem tagL_mem {n : Nat} {l : List Int} {z : TI} (h : z ∈ tagL n l) : n ≤ z.t ∧ ∃ h : z.t - n < l.length, z.x = l[z.t - n] := by
  obtain ⟨i, hi, rfl⟩ := List.getElem_of_mem h
  have hl : i < l.length := by rwa [tagL_length] at hi
  have e := tagL_get n l i hl
  rw [List.getElem?_eq_getElem hi] at e
  rw [Option.some.inj e]
  refine ⟨by show n ≤ n + i; omega, ?_⟩
  simp only [show n + i - n = i from by omega]
  exact ⟨hl, trivial⟩
theorem tagL_inj {n : Nat} {l : List Int} {a b : TI} (ha : a ∈ tagL n l) (hb : b ∈ tagL n l) (h : a.t = b.t) : a = b := by
  obtain ⟨ax, at'⟩ := a
  obtain ⟨bx, bt⟩ := b
  obtain ⟨_, h1, e1⟩ := tagL_mem ha
  obtain ⟨_, h2, e2⟩ := tagL_mem hb
  simp only at h h1 h2 e1 e2
  subst h
  rw [e1, e2]
theorem tagL_map : ∀ (n : Nat) (l : List Int), (tagL n l).map TI.x = l
  | _, [] => rfl
  | n, x :: xs => by simp [tagL, tagL_map (n + 1) xs]
def insTR (r : TI) : List TI → List TI
  | [] => [r]
  | y :: ys => if ordV r.x < ordV y.x then y :: insTR r ys else r :: y :: ys
theorem insTR_perm (r : TI) : ∀ l : List TI, (insTR r l).Perm (r :: l)
  | [] => List.Perm.refl _
  | y :: ys => by
    unfold insTR
    split
    · exact ((insTR_perm r ys).cons y).trans (List.Perm.swap r y ys)
    · exact List.Perm.refl _
theorem insTR_map {r : TI} (h : 768 ≤ r.x ∧ r.x ≤ 879) : ∀ l : List TI, (insTR r l).map TI.x = insR r.x (l.map TI.x)
  | [] => rfl
  | y :: ys => by
    unfold insTR
    rw [List.map_cons, insR]
    by_cases c : ordV r.x < ordV y.x
    · rw [if_pos c, if_pos (by unfold passM; exact decide_eq_true ⟨h, c⟩), List.map_cons, insTR_map h ys]
    · rw [if_neg c, if_neg (by unfold passM; rw [decide_eq_true_iff]; exact fun k => c k.2)]
      rfl
theorem insTR_desc (r : TI) : ∀ l : List TI, l.Pairwise (fun a b => tle b a) → (∀ z ∈ l, z.t < r.t) → (insTR r l).Pairwise (fun a b => tle b a)
  | [], _, _ => by simp [insTR]
  | y :: ys, h, ht => by
    rw [List.pairwise_cons] at h
    unfold insTR
    split
    · rename_i c
      rw [List.pairwise_cons]
      refine ⟨fun z hz => ?_, insTR_desc r ys h.2 (fun z hz => ht z (List.mem_cons_of_mem _ hz))⟩
      rcases List.mem_cons.1 ((insTR_perm r ys).mem_iff.1 hz) with rfl | hz
      · exact .inl c
      · exact h.1 z hz
    · rename_i c
      rw [List.pairwise_cons]
      have hy : tle y r := by
        have := ht y (List.mem_cons_self ..)
        unfold tle
        omega
      refine ⟨fun z hz => ?_, List.pairwise_cons.2 h⟩
      rcases List.mem_cons.1 hz with rfl | hz
      · exact hy
      · exact tle_trans (h.1 z hz) hy
theorem foldT : ∀ (xs : List Int) (n : Nat) (acc : List TI), acc.Pairwise (fun a b => tle b a) → (∀ z ∈ acc, z.t < n) → (∀ x ∈ xs, 768 ≤ x ∧ x ≤ 879) →
    ((tagL n xs).foldl (fun a r => insTR r a) acc).Pairwise (fun a b => tle b a) ∧ ((tagL n xs).foldl (fun a r => insTR r a) acc).Perm (acc ++ tagL n xs) ∧ ((tagL n xs).foldl (fun a r => insTR r a) acc).map TI.x = xs.foldl (fun a r => insR r a) (acc.map TI.x)
  | [], n, acc, h, _, _ => by simpa [tagL] using h
  | x :: xs, n, acc, h, ht, hm => by
    have hx := hm x (List.mem_cons_self ..)
    have ih := foldT xs (n + 1) (insTR ⟨x, n⟩ acc) (insTR_desc _ _ h ht) (fun z hz => by
      rcases List.mem_cons.1 ((insTR_perm _ acc).mem_iff.1 hz) with rfl | hz
      · exact Nat.lt_succ_self _
      · have := ht z hz; omega) (fun y hy => hm y (List.mem_cons_of_mem _ hy))
    simp only [tagL, List.foldl_cons]
    refine ⟨ih.1, ih.2.1.trans ?_, ?_⟩
    · exact ((insTR_perm _ acc).append_right _).trans (List.perm_middle.symm)
    · rw [ih.2.2, insTR_map hx]
theorem sortM_rev (l : List Int) : ∀ s : List Int, l.foldl insM s = (l.foldl (fun a r => insR r a) s.reverse).reverse := by
  induction l with
  | nil => intro s; simp
  | cons x xs ih =>
    intro s
    rw [List.foldl_cons, List.foldl_cons, ih, insM, List.reverse_reverse]
/-- A stably sorted run of marks is what insertion makes of it. -/
theorem sorted_is {l : List Int} (hm : ∀ x ∈ l, 768 ≤ x ∧ x ≤ 879) {d' : Array TI} (p : Sort.PermIn 0 l.length (tagL 0 l).toArray d') (s : SortedT 0 l.length d') : d'.toList.map TI.x = sortM l := by
  obtain ⟨f1, f2, f3⟩ := foldT l 0 [] List.Pairwise.nil (fun z hz => by simp at hz) hm
  have hz : d'.size = l.length := by rw [p.1, List.size_toArray, tagL_length]
  have hp : d'.toList.Perm (tagL 0 l) := by
    have := p.2.2
    rwa [Array.extract_eq_self_of_le (by omega), Array.extract_eq_self_of_le (by rw [List.size_toArray, tagL_length]; omega)] at this
  have hq : ((tagL 0 l).foldl (fun a r => insTR r a) []).reverse.Perm (tagL 0 l) := (List.reverse_perm _).trans f2
  have e : d'.toList = ((tagL 0 l).foldl (fun a r => insTR r a) []).reverse := by
    refine List.Perm.eq_of_pairwise (le := tle) (fun a b ha hb h1 h2 => ?_) ?_ ?_ (hp.trans hq.symm)
    · refine tagL_inj (hp.mem_iff.1 ha) (hq.mem_iff.1 hb) ?_
      unfold tle at h1 h2
      omega
    · rw [List.pairwise_iff_getElem]
      intro i j hi hj hij
      simp only [Array.length_toList] at hi hj
      have := s i j (Nat.zero_le _) hij (by omega)
      rwa [getElem!_pos d' i hi, getElem!_pos d' j hj] at this
    · rw [List.pairwise_reverse]
      exact f1
  rw [e, List.map_reverse, f3, sortM, sortM_rev]
  rfl
theorem tag_bnd (l : List Int) (c : Nat) : Bnd c (tagL 0 l).toArray.size (tagL 0 l).toArray := by
  intro x y hx hy hyn
  rw [List.size_toArray, tagL_length] at hyn
  have h1 := tagL_get 0 l x (by omega)
  have h2 := tagL_get 0 l y hyn
  rw [List.getElem!_toArray, List.getElem!_toArray, List.getElem!_of_getElem? h1, List.getElem!_of_getElem? h2]
  show 0 + x ≤ 0 + y
  omega

/-! the row in the heap -/
/-- Block g is the row's own: its cells begin with L. -/
def RowAt (w : World) (g cap : Nat) (L : List Int) : Prop := ∃ cur : Array Value, w.heap[g]? = some (.cells cur 3 (0, 0)) ∧ cur.size = cap ∧ L.length ≤ cap ∧ cur.toList.take L.length = L.map (Value.int .i64)
theorem RowAt.drewN {w : World} {g cap : Nat} {L : List Int} (h : RowAt w g cap L) (n : Nat) : RowAt (w.drewN n) g cap L := by
  obtain ⟨cur, h1, h2⟩ := h
  exact ⟨cur, blk_drewN h1 n, h2⟩
theorem RowAt.cap {w : World} {g cap : Nat} {L : List Int} (h : RowAt w g cap L) : L.length ≤ cap := by
  obtain ⟨cur, _, _, h, _⟩ := h
  exact h
theorem RowAt.lt {w : World} {g cap : Nat} {L : List Int} (h : RowAt w g cap L) : g < w.heap.size := by
  obtain ⟨cur, h, _⟩ := h
  exact (Array.getElem?_eq_some_iff.1 h).1
theorem RowAt.cell {w : World} {g cap : Nat} {L : List Int} (h : RowAt w g cap L) (i : Nat) (hi : i < L.length) : w.cell? ⟨g, i, none⟩ = some (.int .i64 L[i]) ∧ w.frozen? ⟨g, i, none⟩ = false := by
  obtain ⟨cur, h1, h2, h3, h4⟩ := h
  have hc : i < cur.size := by omega
  have e : (cur.toList.take L.length)[i]? = some cur[i] := by
    rw [List.getElem?_take_of_lt hi, Array.getElem?_toList, Array.getElem?_eq_getElem hc]
  rw [h4, List.getElem?_map, List.getElem?_eq_getElem hi] at e
  refine ⟨?_, by simp [World.frozen?, h1]⟩
  rw [show some (Value.int .i64 L[i]) = some cur[i] from e]
  simp [World.cell?, h1, hc]
theorem RowAt.holds {w : World} {g cap : Nat} {L : List Int} (h : RowAt w g cap L) (a : Nat) (l : List Int) (hl : ∀ i (_ : i < l.length), a + i < L.length ∧ L[a + i]? = some l[i]) : Row1 encT w g a (tagL 0 l).toArray := by
  refine ⟨oneT, fun j hj => ?_, h.lt⟩
  rw [List.size_toArray, tagL_length] at hj
  obtain ⟨h1, h2⟩ := hl j hj
  have hc := h.cell (a + j) h1
  rw [List.getElem?_eq_getElem h1] at h2
  rw [List.getElem!_toArray, List.getElem!_of_getElem? (tagL_get 0 l j hj)]
  refine ⟨?_, hc.2⟩
  rw [hc.1, Option.some.inj h2]
  rfl
/-- The row with a part of it put anew. -/
theorem RowAt.sorted {w w' : World} {g cap a : Nat} {L l2 : List Int} {d : Array TI} (h : RowAt w g cap L) (S : SW encT w g a d w') (hd : d.toList.map TI.x = l2) (ha : a + l2.length ≤ L.length) : RowAt w' g cap (L.take a ++ l2 ++ L.drop (a + l2.length)) := by
  obtain ⟨cur, h1, h2, h3, h4⟩ := h
  obtain ⟨m, os, rfl⟩ := S
  have hg : g < w.heap.size := (Array.getElem?_eq_some_iff.1 h1).1
  have hs : d.size = l2.length := by rw [← hd]; simp
  refine ⟨Sort.putCells encT a d cur, ?_, ?_, ?_, ?_⟩
  · unfold sortWorld
    rw [Sort.heap_grow_old _ _ (by show g < (w.heap.modify g _).size; simpa using hg)]
    show (w.heap.modify g _)[g]? = _
    simp [Array.getElem?_modify, h1, Sort.onCells]
  · simp [Sort.putCells, h2]
  · simp only [List.length_append, List.length_take, List.length_drop]; omega
  · refine List.ext_getElem (by simp [Sort.putCells]; omega) fun t t1 t2 => ?_
    have tl : t < L.length := by simp only [List.length_map, List.length_append, List.length_take, List.length_drop] at t2; omega
    have tc : t < cur.size := by omega
    simp only [List.getElem_take, Array.getElem_toList, Sort.putCells, Array.getElem_mapIdx, List.getElem_map]
    have e : cur[t] = .int .i64 L[t] := by
      have e : (cur.toList.take L.length)[t]? = some cur[t] := by
        rw [List.getElem?_take_of_lt tl, Array.getElem?_toList, Array.getElem?_eq_getElem tc]
      rw [h4, List.getElem?_map, List.getElem?_eq_getElem tl] at e
      exact (Option.some.inj e).symm
    by_cases c : a ≤ t ∧ t < a + d.size
    · rw [if_pos c]
      have hx : l2[t - a]? = some d[t - a]!.x := by
        rw [← hd, List.getElem?_map, Array.getElem?_toList, getElem!_pos d (t - a) (by omega), Array.getElem?_eq_getElem (by omega)]
        rfl
      have hy : (L.take a ++ l2 ++ L.drop (a + l2.length))[t]? = some d[t - a]!.x := by
        rw [List.append_assoc, List.getElem?_append_right (by simp; omega), List.getElem?_append_left (by simp; omega), List.length_take, Nat.min_eq_left (by omega)]
        exact hx
      rw [List.getElem?_eq_getElem (by simpa using t2)] at hy
      rw [Option.some.inj hy]
      rfl
    · rw [if_neg c, e]
      have hy : (L.take a ++ l2 ++ L.drop (a + l2.length))[t]? = some L[t] := by
        by_cases c2 : t < a
        · rw [List.append_assoc, List.getElem?_append_left (by simp; omega), List.getElem?_take_of_lt c2, List.getElem?_eq_getElem tl]
        · rw [List.getElem?_append_right (by simp; omega), List.getElem?_drop, List.length_append, List.length_take, Nat.min_eq_left (by omega), show a + l2.length + (t - (a + l2.length)) = t from by omega, List.getElem?_eq_getElem tl]
      rw [List.getElem?_eq_getElem (by simpa using t2)] at hy
      rw [Option.some.inj hy]
theorem sw_below {w w' : World} {g a B : Nat} {d : Array TI} (S : SW encT w g a d w') (hg : B ≤ g) (hB : B ≤ w.heap.size) : Below B w w' := by
  obtain ⟨m, os, rfl⟩ := S
  refine ⟨rfl, ?_, rfl, ?_, fun i hi => ?_⟩
  · rfl
  · unfold sortWorld
    show w.heap.size ≤ ((w.heap.modify g _) ++ os).size
    simp
  · unfold sortWorld
    rw [Sort.heap_grow_old _ _ (by show i < (w.heap.modify g _).size; simp; omega)]
    show (w.heap.modify g _)[i]? = _
    simp [Array.getElem?_modify, show g ≠ i from by omega]
/-- What is kept of a row that this call has made. -/
theorem rowAt_of_R {w : World} {base : Nat} {v : Value} {L : List Int} (h : Kd.R (Kd.int .i64) 3 w base (fun _ => True) v L) (hL : L ≠ []) : ∃ g cap, v = .slice (some ⟨g, 0, none⟩) L.length cap ∧ base ≤ g ∧ cap ≤ maxLen ∧ RowAt w g cap L := by
  have ho := Kd.own_of_R h
  rcases ho.2 with ⟨_, h0⟩ | ⟨g, cap, cur, rfl, hg, hh, hcap, hmax, hcs, htake⟩
  · exact absurd (List.eq_nil_of_length_eq_zero h0) hL
  · exact ⟨g, cap, rfl, hg, hmax, cur, hh, by omega, hcap, by rw [Nat.mul_one] at htake; rw [htake]; rfl⟩
theorem R_of_rowAt {w : World} {base g cap : Nat} {L : List Int} (h : RowAt w g cap L) (hg : base ≤ g) (hc : cap ≤ maxLen) : Kd.R (Kd.int .i64) 3 w base (fun _ => True) (.slice (some ⟨g, 0, none⟩) L.length cap) L := by
  obtain ⟨cur, h1, h2, h3, h4⟩ := h
  refine Kd.R_of_own ⟨by simp [encs], .inr ⟨g, cap, cur, rfl, hg, h1, h3, hc, by omega, ?_⟩⟩ (fun _ _ => trivial)
  rw [Nat.mul_one, h4]
  rfl

theorem order_f (x : Int) : impl_orderOf.f x = some (ordV x) := by
  unfold impl_orderOf.f impl_isMark.f impl_inRange.f ordV
  by_cases h1 : 768 ≤ x <;> by_cases h2 : x ≤ 879 <;> simp [h1, h2]
  rw [Int.tmod_eq_emod_of_nonneg (by omega)]
  unfold wrap64
  omega
theorem compare_f (a b : TI) : cmp_Compare_int.f (ordV a.x) (ordV b.x) = some (cfT a b) := by
  unfold cmp_Compare_int.f cmp_isNaN_int.f cfT
  simp
  split
  · rfl
  · split <;> rfl
/-- The closure of sortMarks. -/
theorem cmpT (a b : TI) (W : World) : Calls Try.prog 73 #[.int .i64 a.x, .int .i64 b.x] W fun e w' => e = .returned (.int .i64 (cfT a b)) ∧ ∃ q os', w' = Sort.grow (W.drewN q) os' := by
  obtain ⟨p, i⟩ := a
  obtain ⟨q, j⟩ := b
  have HA := Aside0.mk (fun w => impl_orderOf.calls p _ w (order_f p))
  have HB := Aside0.mk (fun w => impl_orderOf.calls q _ w (order_f q))
  have HC := Aside0.mk (fun w => cmp_Compare_int.calls _ _ _ w (compare_f ⟨p, i⟩ ⟨q, j⟩))
  show Calls Try.prog 73 #[.int .i64 p, .int .i64 q] W fun e w' => e = .returned (.int .i64 (cfT ⟨p, i⟩ ⟨q, j⟩)) ∧ ∃ q os', w' = Sort.grow (W.drewN q) os'
  go_enter Try.func73, Try.ntmps73
  go_wp2_with (first | (go_at_call 75; (with_reducible refine (HA.out _).mono ?_); rintro e w2 ⟨rfl, ⟨n1, rfl⟩⟩) | (go_at_call 75; (with_reducible refine (HB.out _).mono ?_); rintro e w3 ⟨rfl, ⟨n2, rfl⟩⟩) | (go_at_call 74; (with_reducible refine (HC.out _).mono ?_); rintro e w4 ⟨rfl, ⟨n3, rfl⟩⟩))
  go_ret
  exact ⟨rfl, _, #[], by rw [Sort.grow_empty]⟩
theorem cmpLaysT (blk off size : Nat) (w : World) : CmpLays1 Try.prog 73 #[] encT cfT blk off size w := fun _ _ _ _ x y => cmpT x y _
set_option maxRecDepth 1000000 in
/-- slices.SortStableFunc at the run of marks l. -/
theorem sortStableT (g a cap : Nat) (l : List Int) (w : World) (R : Row1 encT w g a (tagL 0 l).toArray) (hl : l.length < 1000000) (hm : ∀ x ∈ l, 768 ≤ x ∧ x ≤ 879) :
    Calls Try.prog 72 #[.slice (some ⟨g, a, none⟩) l.length cap, .func (.func 73) #[] #[]] w fun e' w' => e' = .returned (.tuple #[]) ∧ ∃ d', SW encT w g a d' w' ∧ d'.toList.map TI.x = sortM l := by
  have eg : ∀ args w, (callFunc 73 args).run Try.prog w = .ok (.enter 73 args) w := enters_of Try.func73 (by kernel_rfl) rfl
  have hz : (tagL 0 l).toArray.size = l.length := by rw [List.size_toArray, tagL_length]
  have h := stableT g a cap 73 (tagL 0 l).toArray w R (cmpLaysT g a _ w) eg (by omega) (tagL 0 l).toArray w rfl (SW.start R.hH) (tag_bnd l)
  rw [hz] at h
  have HC := Aside0.mk h
  have HM := Aside0.mk hm
  clear h R hz eg hm
  go_enter Try.func72, Try.ntmps72
  go_wp2_with (go_at_call 85; (with_reducible refine HC.out.mono ?_); rintro e' w2 ⟨rfl, d2, S2, P2⟩)
  go_end0
  exact ⟨rfl, d2, S2, sorted_is HM.out P2.1 P2.2⟩

/-! the loop of sortMarks: its plain side -/
def mkB (x : Int) : Bool := decide (768 ≤ x ∧ x ≤ 879)
theorem run_split : ∀ l : List Int, ∃ D, l = l.takeWhile mkB ++ D ∧ (∀ x ∈ l.takeWhile mkB, 768 ≤ x ∧ x ≤ 879) ∧ (∀ y, D.head? = some y → ¬ (768 ≤ y ∧ y ≤ 879))
  | [] => ⟨[], rfl, fun x hx => by simp at hx, fun y hy => by simp at hy⟩
  | x :: xs => by
    by_cases c : mkB x = true
    · obtain ⟨D, h1, h2, h3⟩ := run_split xs
      rw [List.takeWhile_cons_of_pos c]
      refine ⟨D, by rw [List.cons_append, ← h1], fun y hy => ?_, h3⟩
      rcases List.mem_cons.1 hy with rfl | hy
      · exact of_decide_eq_true c
      · exact h2 y hy
    · rw [List.takeWhile_cons_of_neg c]
      refine ⟨x :: xs, rfl, fun y hy => by simp at hy, fun y hy => ?_⟩
      cases hy
      exact fun k => c (decide_eq_true k)
def runM (l0 : List Int) (a : Nat) : List Int := (l0.drop a).takeWhile mkB
/-- Where the loop stands. -/
def SMI (a : Nat) (l0 L : List Int) : Prop := (a ≤ l0.length → L = sortM (l0.take a) ++ l0.drop a ∧ Stop (sortM (l0.take a))) ∧ (l0.length < a → L = sortM l0)
theorem SMI.start (l0 : List Int) : SMI 0 l0 l0 := ⟨fun _ => ⟨rfl, fun y hy => by simp [sortM] at hy⟩, fun h => by omega⟩
theorem SMI.run {a : Nat} {l0 L : List Int} (h : SMI a l0 L) (ha : a < l0.length) (hL : L.length = l0.length) :
    (∀ x ∈ runM l0 a, 768 ≤ x ∧ x ≤ 879) ∧ a + (runM l0 a).length ≤ l0.length ∧ (∀ i (_ : i < (runM l0 a).length), a + i < L.length ∧ L[a + i]? = some (runM l0 a)[i]) ∧ (a + (runM l0 a).length < l0.length → ∃ x, L[a + (runM l0 a).length]? = some x ∧ ¬ (768 ≤ x ∧ x ≤ 879)) ∧
      SMI (a + (runM l0 a).length + 1) l0 (L.take a ++ sortM (runM l0 a) ++ L.drop (a + (runM l0 a).length)) := by
  obtain ⟨D, h1, h2, h3⟩ := run_split (l0.drop a)
  obtain ⟨e, hs⟩ := h.1 (by omega)
  have hl : (sortM (l0.take a)).length = a := by rw [sortM_length, List.length_take]; omega
  change l0.drop a = runM l0 a ++ D at h1
  have hn : l0.length - a = (runM l0 a).length + D.length := by rw [← List.length_drop, h1, List.length_append]
  have hget : ∀ i, L[a + i]? = (runM l0 a ++ D)[i]? := by
    intro i
    rw [e, List.getElem?_append_right (by omega), hl, Nat.add_sub_cancel_left, h1]
  have htk : l0.take (a + (runM l0 a).length) = l0.take a ++ runM l0 a := by
    rw [List.take_add, h1, List.take_left]
  have hdr : l0.drop (a + (runM l0 a).length) = D := by
    rw [← List.drop_drop, h1, List.drop_left]
  have hL2 : L.take a ++ sortM (runM l0 a) ++ L.drop (a + (runM l0 a).length) = sortM (l0.take (a + (runM l0 a).length)) ++ D := by
    rw [htk, sortM_append hs, ← List.drop_drop, e]
    have z1 : (sortM (l0.take a) ++ l0.drop a).take a = sortM (l0.take a) := List.take_left' hl
    have z2 : (sortM (l0.take a) ++ l0.drop a).drop a = l0.drop a := List.drop_left' hl
    rw [z1, z2, h1, List.drop_left]
  refine ⟨h2, by omega, fun i hi => ⟨by omega, ?_⟩, fun hlt => ?_, ?_⟩
  · rw [hget, List.getElem?_append_left hi, List.getElem?_eq_getElem hi]
  · cases D with
    | nil => simp at hn; omega
    | cons x D =>
      exact ⟨x, by rw [hget, List.getElem?_append_right (Nat.le_refl _), Nat.sub_self]; rfl, h3 x rfl⟩
  · rw [hL2]
    refine ⟨fun hle => ?_, fun hlt => ?_⟩
    · cases D with
      | nil => simp at hn; omega
      | cons x D =>
        have hx := h3 x rfl
        have ht1 : l0.take (a + (runM l0 a).length + 1) = l0.take (a + (runM l0 a).length) ++ [x] := by
          rw [List.take_add, hdr]
          rfl
        have hd1 : l0.drop (a + (runM l0 a).length + 1) = D := by
          rw [← List.drop_drop, hdr]
          rfl
        rw [ht1, hd1, sortM_snoc hx]
        exact ⟨by simp, stop_snoc hx _⟩
    · have hz : D = [] := List.eq_nil_of_length_eq_zero (by omega)
      rw [hz, List.append_nil]
      congr 1
      exact List.take_of_length_le (by omega)
theorem SMI.last {a : Nat} {l0 L : List Int} (h : SMI a l0 L) (ha : l0.length ≤ a) : L = sortM l0 := by
  by_cases c : a ≤ l0.length
  · rw [(h.1 c).1, List.take_of_length_le ha, List.drop_eq_nil_of_le ha, List.append_nil]
  · exact h.2 (by omega)
theorem mark_f {x : Int} (h : 768 ≤ x ∧ x ≤ 879) : impl_isMark.f x = some true := by
  unfold impl_isMark.f impl_inRange.f
  simp [h.1, h.2]
theorem nomark_f {x : Int} (h : ¬ (768 ≤ x ∧ x ≤ 879)) : impl_isMark.f x = some false := by
  unfold impl_isMark.f impl_inRange.f
  by_cases h1 : 768 ≤ x
  · simp [h1]; omega
  · simp [h1]

end Go.Proofs.Ytaeaeejfaffbpaa.HFnExactSortMarks
