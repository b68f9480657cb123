/- Written by wip/pr.py of this session, for the law FnSets: Lean functions with the answers of the program's, and the proofs of that; where the kit's print has no word, by hand. -/
import Derived.Test.YthincjdobjccfaaHFnSetsx0
namespace Go.Proofs.Ythincjdobjccfaa.HFnSets
open Go.RowKit Go.Proofs.YthincjdobjccfaaW.PrintWords Go.Proofs.YthincjdobjccfaaW.PrintLast Go.Proofs.YthincjdobjccfaaW.PrintMore
attribute [local go_sem] max2_int min2_int max_two min_two max_three min_three max_four min_four   -- for this text's walks alone
set_option linter.unusedVariables false
set_option linter.unusedSimpArgs false

/-! ### impl_span: function 65 -/
def lSort_ren : Go.Shelf.Ren := ⟨fun | 6 => 65 | 15 => 76 | 14 => 75 | 28 => 87 | 29 => 88 | 20 => 79 | 21 => 80 | 22 => 81 | 23 => 82 | 24 => 83 | 25 => 84 | 26 => 85 | 27 => 86 | 46 => 89 | 47 => 90 | 48 => 91 | 49 => 92 | 50 => 93 | 57 => 94 | n => n, fun | 22 => 45 | 24 => 48 | 25 => 63 | 3 => 3 | 39 => 70 | 0 => 0 | 53 => 81 | 55 => 52 | 4 => 4 | 46 => 75 | 45 => 74 | 50 => 38 | 5 => 5 | 9 => 9 | 66 => 83 | 70 => 87 | 76 => 89 | 77 => 90 | n => n, fun | n => n⟩
theorem lSort : Go.Proofs.SlLaysF0.n6 Try.prog lSort_ren := {
  mixed := by kernel_rfl
  f6 := ⟨Try.f65.name, by decide, Try.func65.trans (congrArg some (by kernel_rfl))⟩
  f14 := ⟨Try.f75.name, by decide, Try.func75.trans (congrArg some (by kernel_rfl))⟩
  f15 := Try.func76.trans (congrArg some (by kernel_rfl))
  f20 := ⟨Try.f79.name, by decide, Try.func79.trans (congrArg some (by kernel_rfl))⟩
  f21 := ⟨Try.f80.name, by decide, Try.func80.trans (congrArg some (by kernel_rfl))⟩
  f22 := ⟨Try.f81.name, by decide, Try.func81.trans (congrArg some (by kernel_rfl))⟩
  f23 := ⟨Try.f82.name, by decide, Try.func82.trans (congrArg some (by kernel_rfl))⟩
  f24 := ⟨Try.f83.name, by decide, Try.func83.trans (congrArg some (by kernel_rfl))⟩
  f25 := ⟨Try.f84.name, by decide, Try.func84.trans (congrArg some (by kernel_rfl))⟩
  f26 := ⟨Try.f85.name, by decide, Try.func85.trans (congrArg some (by kernel_rfl))⟩
  f27 := ⟨Try.f86.name, by decide, Try.func86.trans (congrArg some (by kernel_rfl))⟩
  f28 := Try.func87.trans (congrArg some (by kernel_rfl))
  f29 := Try.func88.trans (congrArg some (by kernel_rfl))
  f46 := ⟨Try.f89.name, by decide, Try.func89.trans (congrArg some (by kernel_rfl))⟩
  f47 := Try.func90.trans (congrArg some (by kernel_rfl))
  f48 := Try.func91.trans (congrArg some (by kernel_rfl))
  f49 := ⟨Try.f92.name, by decide, Try.func92.trans (congrArg some (by kernel_rfl))⟩
  f50 := ⟨Try.f93.name, by decide, Try.func93.trans (congrArg some (by kernel_rfl))⟩
  f57 := ⟨Try.f94.name, by decide, Try.func94.trans (congrArg some (by kernel_rfl))⟩
  t0 := Try.underlying0
  a0 := Try.isAgg0
  z0 := Try.sizeOf0
  v0 := Try.zeroValue0
  t3 := Try.underlying3
  a3 := Try.isAgg3
  z3 := Try.sizeOf3
  v3 := Try.zeroValue3
  t4 := Try.underlying4
  a4 := Try.isAgg4
  z4 := Try.sizeOf4
  v4 := Try.zeroValue4
  t5 := Try.underlying5
  a5 := Try.isAgg5
  z5 := Try.sizeOf5
  v5 := Try.zeroValue5
  t9 := Try.underlying9
  a9 := Try.isAgg9
  z9 := Try.sizeOf9
  v9 := Try.zeroValue9
  t22 := Try.underlying45
  a22 := Try.isAgg45
  z22 := Try.sizeOf45
  v22 := Try.zeroValue45
  t25 := Try.underlying63
  a25 := Try.isAgg63
  z25 := Try.sizeOf63
  v25 := Try.zeroValue63
  t39 := Try.underlying70
  a39 := Try.isAgg70
  z39 := Try.sizeOf70
  v39 := Try.zeroValue70
  t45 := Try.underlying74
  a45 := Try.isAgg74
  z45 := Try.sizeOf74
  v45 := Try.zeroValue74
  t46 := Try.underlying75
  a46 := Try.isAgg75
  z46 := Try.sizeOf75
  v46 := Try.zeroValue75
  t50 := Try.underlying38
  a50 := Try.isAgg38
  z50 := Try.sizeOf38
  v50 := Try.zeroValue38
  t53 := Try.underlying81
  a53 := Try.isAgg81
  z53 := Try.sizeOf81
  v53 := Try.zeroValue81
  t55 := Try.underlying52
  a55 := Try.isAgg52
  z55 := Try.sizeOf52
  v55 := Try.zeroValue52
  t66 := Try.underlying83
  a66 := Try.isAgg83
  z66 := Try.sizeOf83
  v66 := Try.zeroValue83
  t70 := Try.underlying87
  a70 := Try.isAgg87
  z70 := Try.sizeOf87
  v70 := Try.zeroValue87
  t76 := Try.underlying89
  a76 := Try.isAgg89
  z76 := Try.sizeOf89
  v76 := Try.zeroValue89
  t77 := Try.underlying90
  a77 := Try.isAgg90
  z77 := Try.sizeOf90
  v77 := Try.zeroValue90 }
/-- A span whose first number fits a comparison by subtraction. -/
structure Bs where
  x : S48
  h : 0 ≤ x.f0 ∧ x.f0 ≤ 1099511627776
instance : Inhabited Bs := ⟨⟨⟨0, 0⟩, by decide⟩⟩
def encB (b : Bs) : List Value := [.int .i64 b.x.f0, .int .i64 b.x.f1]
def cfB (a b : Bs) : Int := a.x.f0 - b.x.f0
theorem ltB (a b : Bs) : ltOf cfB a b = decide (a.x.f0 < b.x.f0) := by
  unfold ltOf cfB
  rw [Bool.eq_iff_iff, decide_eq_true_iff, decide_eq_true_iff]
  omega
theorem swoB : Sort.SWO (ltOf cfB) where
  irrefl x := by rw [ltB]; simp
  trans x y z h1 h2 := by rw [ltB] at *; simp at *; omega
  ntrans x y z h1 h2 := by rw [ltB] at *; simp at *; omega
def packB (l : List S48) (h : ∀ x ∈ l, 0 ≤ x.f0 ∧ x.f0 ≤ 1099511627776) : List Bs := l.pmap Bs.mk h
theorem packB_length (l : List S48) (h : ∀ x ∈ l, 0 ≤ x.f0 ∧ x.f0 ≤ 1099511627776) : (packB l h).length = l.length := by simp [packB]
theorem packB_map (l : List S48) (h : ∀ x ∈ l, 0 ≤ x.f0 ∧ x.f0 ≤ 1099511627776) : (packB l h).map Bs.x = l := by
  unfold packB
  rw [List.map_pmap]
  simp
/-- The sorted row. -/
def sortV (l : List S48) (h : ∀ x ∈ l, 0 ≤ x.f0 ∧ x.f0 ≤ 1099511627776) : List S48 :=
  (Sort.pdq (ltOf cfB) (packB l h).toArray 0 l.length (Lib.bitLen l.length) true true).toList.map Bs.x
theorem sortV_spec (l : List S48) (h : ∀ x ∈ l, 0 ≤ x.f0 ∧ x.f0 ≤ 1099511627776) : (sortV l h).Perm l ∧ (sortV l h).Pairwise fun a b => a.f0 ≤ b.f0 := by
  have hz : (packB l h).toArray.size = l.length := by rw [List.size_toArray, packB_length]
  obtain ⟨⟨h1, _, h3⟩, h4⟩ := Sort.pdq_sorts (ltOf cfB) swoB (packB l h).toArray 0 l.length (Lib.bitLen l.length) true true (Nat.zero_le _) (by omega) (Or.inl rfl)
  unfold sortV
  generalize Sort.pdq (ltOf cfB) (packB l h).toArray 0 l.length (Lib.bitLen l.length) true true = d at h1 h3 h4
  rw [Array.extract_eq_self_of_le (by omega), Array.extract_eq_self_of_le (by omega)] at h3
  refine ⟨?_, ?_⟩
  · have := h3.map Bs.x
    rwa [List.toList_toArray, packB_map] at this
  · rw [List.pairwise_iff_getElem]
    intro i j hi hj hij
    simp only [List.length_map, Array.length_toList] at hi hj
    have := h4 i j (Nat.zero_le _) hij (by omega)
    rw [getElem!_pos d i hi, getElem!_pos d j hj, ltB] at this
    simp only [List.getElem_map, Array.getElem_toList]
    have := of_decide_eq_false this
    omega
/-- The closure of setOf. -/
theorem cmpB (a b : Bs) (W : World) : Calls Try.prog 66 #[.agg #[.int .i64 a.x.f0, .int .i64 a.x.f1], .agg #[.int .i64 b.x.f0, .int .i64 b.x.f1]] W fun e w' => e = .returned (.int .i64 (cfB a b)) ∧ ∃ q os', w' = Sort.grow (W.drewN q) os' := by
  have hu48 := Try.underlying48
  obtain ⟨⟨p, q⟩, h0, h1⟩ := a
  obtain ⟨⟨s, t⟩, h2, h3⟩ := b
  replace h0 : 0 ≤ p := h0
  replace h1 : p ≤ 1099511627776 := h1
  replace h2 : 0 ≤ s := h2
  replace h3 : s ≤ 1099511627776 := h3
  show Calls Try.prog 66 #[.agg #[.int .i64 p, .int .i64 q], .agg #[.int .i64 s, .int .i64 t]] W fun e w' => e = .returned (.int .i64 (p - s)) ∧ ∃ q os', w' = Sort.grow (W.drewN q) os'
  go_enter Try.func66, Try.ntmps66
  go_wp2
  go_ret
  exact ⟨rfl, 0, _, by rw [Sort.alloc_eq_grow, Sort.alloc_eq_grow, Sort.grow_grow]; rfl⟩
theorem cmpLaysB (blk off size : Nat) (w : World) : CmpLays Try.prog 66 #[] encB 2 cfB blk off size w := fun _ _ _ _ x y => cmpB x y _
theorem sw_heap (w : World) (g m : Nat) (d : Array Bs) (os : Array Obj) (i : Nat) (hi : i < w.heap.size) (hne : i ≠ g) : (sortWorldK encB 2 w g 0 m d os).heap[i]? = w.heap[i]? := by
  unfold sortWorldK
  rw [Sort.heap_grow_old _ _ (by show i < (w.heap.modify g _).size; simpa using hi)]
  show (w.heap.modify g _)[i]? = _
  simp [Array.getElem?_modify, Ne.symm hne]
theorem sw_at (w : World) (g m : Nat) (d : Array Bs) (os : Array Obj) (cur : Array Value) (e : Nat) (hg : w.heap[g]? = some (.cells cur e (0, 0))) :
    (sortWorldK encB 2 w g 0 m d os).heap[g]? = some (.cells (Sort.putCells id 0 (Sort.flatK encB 2 d) cur) e (0, 0)) := by
  have hi : g < w.heap.size := (Array.getElem?_eq_some_iff.1 hg).1
  unfold sortWorldK
  rw [Sort.heap_grow_old _ _ (by show g < (w.heap.modify g _).size; simpa using hi)]
  show (w.heap.modify g _)[g]? = _
  simp [Array.getElem?_modify, hg, Sort.onCells]
theorem sw_size (w : World) (g m : Nat) (d : Array Bs) (os : Array Obj) : w.heap.size ≤ (sortWorldK encB 2 w g 0 m d os).heap.size := by
  unfold sortWorldK
  show w.heap.size ≤ ((w.heap.modify g _) ++ os).size
  simp
theorem flat_get (d : Array Bs) (j : Nat) (hj : j < d.size) : (Sort.flatK encB 2 d)[j * 2]! = .int .i64 d[j].x.f0 ∧ (Sort.flatK encB 2 d)[j * 2 + 1]! = .int .i64 d[j].x.f1 := by
  rw [Sort.get_flatK _ _ _ _ (by omega), Sort.get_flatK _ _ _ _ (by omega), show j * 2 / 2 = j from by omega, show j * 2 % 2 = 0 from by omega, show (j * 2 + 1) / 2 = j from by omega, show (j * 2 + 1) % 2 = 1 from by omega, getElem!_pos d j hj]
  exact ⟨rfl, rfl⟩
/-- The row's cells are the elements', one behind the other. -/
theorem reps_flat (w : World) (base : Nat) (ok : Nat → Prop) (d : Array Bs) : Reps (k48.M w base ok) 2 (d.toList.map Bs.x) (Sort.flatK encB 2 d).toList := by
  refine ⟨by simp, fun j p hp => ?_⟩
  obtain ⟨hj, rfl⟩ := List.getElem?_eq_some_iff.1 hp
  simp only [List.length_map, Array.length_toList] at hj
  simp only [List.getElem_map, Array.getElem_toList]
  have hf := flat_get d j hj
  have hs : (Sort.flatK encB 2 d).size = d.size * 2 := Sort.size_flatK _ _ _
  rw [getElem!_pos _ _ (by omega), getElem!_pos _ _ (by omega)] at hf
  have e : ((Sort.flatK encB 2 d).toList.drop (j * 2)).take 2 = [.int .i64 d[j].x.f0, .int .i64 d[j].x.f1] := by
    rw [List.drop_eq_getElem_cons (by simp; omega), List.drop_eq_getElem_cons (by simp; omega)]
    simp only [List.take_succ_cons, List.take_zero, Array.getElem_toList, hf.1, hf.2]
  rw [e]
  exact k48_mkM _ _ _ _
theorem reps_inner {w : World} {base : Nat} {ok : Nat → Prop} {l : List S48} {inner : List Value} (h : ∀ x ∈ l, 0 ≤ x.f0 ∧ x.f0 ≤ 1099511627776) (hr : Reps (k48.M w base ok) 2 l inner) : inner = (Sort.flatK encB 2 (packB l h).toArray).toList := by
  have h2 := reps_flat w base ok (packB l h).toArray
  rw [List.toList_toArray, packB_map] at h2
  refine List.ext_getElem (by rw [hr.1, h2.1]) fun t ht1 ht2 => ?_
  have htl : t < l.length * 2 := by have := hr.1; omega
  have hj : t / 2 < l.length := by omega
  have e1 := k48_openM (hr.2 (t / 2) _ (List.getElem?_eq_getElem hj))
  have e2 := k48_openM (h2.2 (t / 2) _ (List.getElem?_eq_getElem hj))
  have e3 := e1.trans e2.symm
  have h3 : ((inner.drop (t / 2 * 2)).take 2)[t % 2]? = (((Sort.flatK encB 2 (packB l h).toArray).toList.drop (t / 2 * 2)).take 2)[t % 2]? := by rw [e3]
  rw [List.getElem?_take_of_lt (by omega), List.getElem?_take_of_lt (by omega), List.getElem?_drop, List.getElem?_drop, show t / 2 * 2 + t % 2 = t from by omega, List.getElem?_eq_getElem ht1, List.getElem?_eq_getElem ht2] at h3
  exact Option.some.inj h3
def impl_span.f (l0 : List S48) (a1 : Nat) : Option (List S48) :=
  if h : a1 = 66 ∧ l0.length < 2305843009213693952 ∧ ∀ x ∈ l0, 0 ≤ x.f0 ∧ x.f0 ≤ 1099511627776 then some (sortV l0 h.2.2) else none
set_option maxHeartbeats 4000000 in
theorem impl_span.calls (P0_ : Nat → Prop) (u9000_ : Value) (l0 : List S48) (a1 : Nat) (r : List S48) (w0 w : World) (hB : Below w0.heap.size w0 w) (ho0 : Kd.R k48 48 w w0.heap.size P0_ u9000_ l0) (h : impl_span.f l0 a1 = some r) :
    Calls Try.prog 65 #[u9000_, .func (.func a1) #[] #[]] w fun e w' => e = .returned (.tuple #[]) ∧ Kd.R k48 48 w' w0.heap.size (fun k_ => (P0_ k_ ∨ w.heap.size ≤ k_)) u9000_ r ∧ Below w0.heap.size w0 w' ∧ Kept w w' (fun k_ => P0_ k_) := by
  unfold impl_span.f at h
  split at h
  case isFalse => exact absurd h (by simp)
  case isTrue hc =>
    obtain rfl := Option.some.inj h
    clear h
    obtain ⟨rfl, hlen, hP⟩ := hc
    obtain ⟨hok, inner, ⟨hil, hor⟩, hrep⟩ := ho0
    have hin := reps_inner hP hrep
    have eg : ∀ args w, (callFunc 66 args).run Try.prog w = .ok (.enter 66 args) w := enters_of Try.func66 (by kernel_rfl) rfl
    by_cases hn : l0.length = 0
    · obtain rfl : l0 = [] := List.eq_nil_of_length_eq_zero hn
      have hv : ∃ p cap, u9000_ = .slice p 0 cap := by
        rcases hor with ⟨rfl, _⟩ | ⟨g, cap, cur, rfl, _⟩
        · exact ⟨_, _, rfl⟩
        · exact ⟨_, _, rfl⟩
      have hs : sortV [] hP = [] := List.Perm.eq_nil (sortV_spec [] hP).1
      rw [hs]
      have hR : Kd.R k48 48 w w0.heap.size (fun k_ => (P0_ k_ ∨ w.heap.size ≤ k_)) u9000_ [] := Kd.R_mono ⟨hok, inner, ⟨hil, hor⟩, hrep⟩ (fun _ hk => .inl hk)
      obtain ⟨p, cap, rfl⟩ := hv
      have hcon := AnyF.slices_SortFunc_none { lSort with } p cap (.func (.func 66) #[] #[]) w
      change Calls Try.prog 65 _ _ _ at hcon
      refine hcon.mono ?_
      rintro e w' ⟨rfl, rfl⟩
      exact ⟨rfl, hR, hB, Kept.refl _ _⟩
    · rcases hor with ⟨_, h0⟩ | ⟨g, cap, cur, rfl, hg, hh, hcap, hmax, hcs, htake⟩
      · exact absurd h0 hn
      · have hz : (packB l0 hP).toArray.size = l0.length := by rw [List.size_toArray, packB_length]
        have hgl : g < w.heap.size := (Array.getElem?_eq_some_iff.1 hh).1
        have hH : Sort.HoldsK encB 2 w g 0 (packB l0 hP).toArray := by
          intro j hj
          have hj2 : j < l0.length * 2 := by rw [Sort.size_flatK, hz] at hj; exact hj
          have hjc : j < cur.size := by
            have : l0.length * 2 ≤ cap * 2 := Nat.mul_le_mul_right _ hcap
            have hcs2 : cur.size = cap * 2 := hcs
            omega
          refine ⟨?_, ?_⟩
          · have e1 : inner[j]? = some cur[j] := by
              rw [← htake, List.getElem?_take_of_lt (show j < l0.length * k48.sz from hj2), Array.getElem?_toList, Array.getElem?_eq_getElem hjc]
            rw [hin, Array.getElem?_toList, Array.getElem?_eq_getElem hj] at e1
            rw [getElem!_pos (Sort.flatK encB 2 (packB l0 hP).toArray) j hj, Option.some.inj e1]
            simp [World.cell?, hh, hjc]
          · simp [World.frozen?, hh]
        have hcon := AnyQ.slices_SortFunc_eq lSort 2 Try.isAgg48 Try.sizeOf48 encB (fun _ => rfl) (fun x v hv => by simp [encB] at hv; rcases hv with rfl | rfl <;> rfl) cfB swoB 66 #[] g 0 cap (packB l0 hP).toArray w eg (cmpLaysB g 0 _ w) hH hgl (by rw [hz]; omega)
        rw [hz] at hcon
        have hspec := sortV_spec l0 hP
        have hsv : (Sort.pdq (ltOf cfB) (packB l0 hP).toArray 0 l0.length (Lib.bitLen l0.length) true true).toList.map Bs.x = sortV l0 hP := rfl
        generalize Sort.pdq (ltOf cfB) (packB l0 hP).toArray 0 l0.length (Lib.bitLen l0.length) true true = d at hcon hsv
        change Calls Try.prog 65 _ _ _ at hcon
        have hdl : d.size = l0.length := by rw [← hspec.1.length_eq, ← hsv]; simp
        refine hcon.mono ?_
        rintro e w' ⟨rfl, m, os, rfl⟩
        have hbelow : Below w0.heap.size w0 (sortWorldK encB 2 w g 0 m d os) :=
          ⟨hB.os, hB.tape, hB.output, Nat.le_trans hB.size (sw_size w g m d os), fun i hi => (sw_heap w g m d os i (Nat.lt_of_lt_of_le hi hB.size) (by omega)).trans (hB.block i hi)⟩
        refine ⟨rfl, ⟨fun k hk => .inl (hok k hk), (Sort.flatK encB 2 d).toList, ⟨?_, .inr ⟨g, cap, Sort.putCells id 0 (Sort.flatK encB 2 d) cur, ?_, hg, sw_at w g m d os cur _ hh, ?_, hmax, ?_, ?_⟩⟩, ?_⟩, hbelow, ⟨sw_size w g m d os, fun i hi hn2 => sw_heap w g m d os i hi (fun e => hn2 (e ▸ hok g rfl))⟩⟩
        · rw [← hsv]
          show (Sort.flatK encB 2 d).toList.length = (d.toList.map Bs.x).length * 2
          simp
        · rw [← hsv]; simp [hdl]
        · rw [← hsv]; simpa [hdl] using hcap
        · show (Sort.putCells id 0 (Sort.flatK encB 2 d) cur).size = cap * 2
          have hcs2 : cur.size = cap * 2 := hcs
          simp [Sort.putCells, hcs2]
        · show (Sort.putCells id 0 (Sort.flatK encB 2 d) cur).toList.take ((sortV l0 hP).length * 2) = _
          have hcs2 : cur.size = cap * 2 := hcs
          have hll : (sortV l0 hP).length = d.size := by rw [← hsv]; simp
          have hdc : d.size ≤ cap := by omega
          refine List.ext_getElem (by simp [Sort.putCells, hll, hcs2]; omega) fun t h1 h2 => ?_
          have ht : t < d.size * 2 := by simpa using h2
          simp only [List.getElem_take, Array.getElem_toList, Sort.putCells, Array.getElem_mapIdx, Nat.zero_le, Nat.zero_add, Sort.size_flatK, ht, and_self, if_true, Nat.sub_zero, id]
          rw [getElem!_pos]
        · rw [← hsv]
          exact reps_flat _ _ _ d

end Go.Proofs.Ythincjdobjccfaa.HFnSets
