/- Written by wip/pr.py of this session, for the law FnExactFoldRe: Lean functions with the answers of the program's, and the proofs of that; where the kit's print has no word, by hand. -/
import Derived.Test.YtlmpeaelpchokaaHFnExactFoldRex0
namespace Go.Proofs.Ytlmpeaelpchokaa.HFnExactFoldRe
open Go.RowKit Go.Proofs.YtlmpeaelpchokaaW.PrintWords Go.Proofs.YtlmpeaelpchokaaW.PrintLast Go.Proofs.YtlmpeaelpchokaaW.PrintMore
attribute [local go_sem] max2_int min2_int max_two min_two max_three min_three max_four min_four   -- for this text's walks alone
set_option linter.unusedVariables false
set_option linter.unusedSimpArgs false

/-! ### impl_span: function 123 -/
def lSort_ren : Go.Shelf.Ren := ⟨fun | 6 => 123 | 15 => 135 | 14 => 134 | 28 => 148 | 29 => 149 | 20 => 140 | 21 => 141 | 22 => 142 | 23 => 143 | 24 => 144 | 25 => 145 | 26 => 146 | 27 => 147 | 46 => 152 | 47 => 153 | 48 => 154 | 49 => 155 | 50 => 156 | 57 => 159 | n => n, fun | 22 => 89 | 24 => 92 | 25 => 102 | 3 => 3 | 39 => 109 | 0 => 0 | 53 => 121 | 55 => 123 | 4 => 4 | 46 => 114 | 45 => 113 | 50 => 118 | 5 => 5 | 9 => 9 | 66 => 126 | 70 => 130 | 76 => 135 | 77 => 132 | n => n, fun | n => n⟩
theorem lSort : Go.Proofs.SlLaysF0.n6 Try.prog lSort_ren := {
  mixed := by kernel_rfl
  f6 := ⟨Try.f123.name, by decide, Try.func123.trans (congrArg some (by kernel_rfl))⟩
  f14 := ⟨Try.f134.name, by decide, Try.func134.trans (congrArg some (by kernel_rfl))⟩
  f15 := Try.func135.trans (congrArg some (by kernel_rfl))
  f20 := ⟨Try.f140.name, by decide, Try.func140.trans (congrArg some (by kernel_rfl))⟩
  f21 := ⟨Try.f141.name, by decide, Try.func141.trans (congrArg some (by kernel_rfl))⟩
  f22 := ⟨Try.f142.name, by decide, Try.func142.trans (congrArg some (by kernel_rfl))⟩
  f23 := ⟨Try.f143.name, by decide, Try.func143.trans (congrArg some (by kernel_rfl))⟩
  f24 := ⟨Try.f144.name, by decide, Try.func144.trans (congrArg some (by kernel_rfl))⟩
  f25 := ⟨Try.f145.name, by decide, Try.func145.trans (congrArg some (by kernel_rfl))⟩
  f26 := ⟨Try.f146.name, by decide, Try.func146.trans (congrArg some (by kernel_rfl))⟩
  f27 := ⟨Try.f147.name, by decide, Try.func147.trans (congrArg some (by kernel_rfl))⟩
  f28 := Try.func148.trans (congrArg some (by kernel_rfl))
  f29 := Try.func149.trans (congrArg some (by kernel_rfl))
  f46 := ⟨Try.f152.name, by decide, Try.func152.trans (congrArg some (by kernel_rfl))⟩
  f47 := Try.func153.trans (congrArg some (by kernel_rfl))
  f48 := Try.func154.trans (congrArg some (by kernel_rfl))
  f49 := ⟨Try.f155.name, by decide, Try.func155.trans (congrArg some (by kernel_rfl))⟩
  f50 := ⟨Try.f156.name, by decide, Try.func156.trans (congrArg some (by kernel_rfl))⟩
  f57 := ⟨Try.f159.name, by decide, Try.func159.trans (congrArg some (by kernel_rfl))⟩
  t0 := Try.underlying0
  a0 := Try.isAgg0
  z0 := Try.sizeOf0
  v0 := Try.zeroValue0
  t3 := Try.underlying3
  a3 := Try.isAgg3
  z3 := Try.sizeOf3
  v3 := Try.zeroValue3
  t4 := Try.underlying4
  a4 := Try.isAgg4
  z4 := Try.sizeOf4
  v4 := Try.zeroValue4
  t5 := Try.underlying5
  a5 := Try.isAgg5
  z5 := Try.sizeOf5
  v5 := Try.zeroValue5
  t9 := Try.underlying9
  a9 := Try.isAgg9
  z9 := Try.sizeOf9
  v9 := Try.zeroValue9
  t22 := Try.underlying89
  a22 := Try.isAgg89
  z22 := Try.sizeOf89
  v22 := Try.zeroValue89
  t25 := Try.underlying102
  a25 := Try.isAgg102
  z25 := Try.sizeOf102
  v25 := Try.zeroValue102
  t39 := Try.underlying109
  a39 := Try.isAgg109
  z39 := Try.sizeOf109
  v39 := Try.zeroValue109
  t45 := Try.underlying113
  a45 := Try.isAgg113
  z45 := Try.sizeOf113
  v45 := Try.zeroValue113
  t46 := Try.underlying114
  a46 := Try.isAgg114
  z46 := Try.sizeOf114
  v46 := Try.zeroValue114
  t50 := Try.underlying118
  a50 := Try.isAgg118
  z50 := Try.sizeOf118
  v50 := Try.zeroValue118
  t53 := Try.underlying121
  a53 := Try.isAgg121
  z53 := Try.sizeOf121
  v53 := Try.zeroValue121
  t55 := Try.underlying123
  a55 := Try.isAgg123
  z55 := Try.sizeOf123
  v55 := Try.zeroValue123
  t66 := Try.underlying126
  a66 := Try.isAgg126
  z66 := Try.sizeOf126
  v66 := Try.zeroValue126
  t70 := Try.underlying130
  a70 := Try.isAgg130
  z70 := Try.sizeOf130
  v70 := Try.zeroValue130
  t76 := Try.underlying135
  a76 := Try.isAgg135
  z76 := Try.sizeOf135
  v76 := Try.zeroValue135
  t77 := Try.underlying132
  a77 := Try.isAgg132
  z77 := Try.sizeOf132
  v77 := Try.zeroValue132 }
/-- A span whose first number fits a comparison by subtraction. -/
structure Bs where
  x : S92
  h : 0 ≤ x.f0 ∧ x.f0 ≤ 1099511627776
instance : Inhabited Bs := ⟨⟨⟨0, 0⟩, by decide⟩⟩
def encB (b : Bs) : List Value := [.int .i64 b.x.f0, .int .i64 b.x.f1]
def cfB (a b : Bs) : Int := a.x.f0 - b.x.f0
theorem ltB (a b : Bs) : ltOf cfB a b = decide (a.x.f0 < b.x.f0) := by
  unfold ltOf cfB
  rw [Bool.eq_iff_iff, decide_eq_true_iff, decide_eq_true_iff]
  omega
theorem swoB : Sort.SWO (ltOf cfB) where
  irrefl x := by rw [ltB]; simp
  trans x y z h1 h2 := by rw [ltB] at *; simp at *; omega
  ntrans x y z h1 h2 := by rw [ltB] at *; simp at *; omega
def packB (l : List S92) (h : ∀ x ∈ l, 0 ≤ x.f0 ∧ x.f0 ≤ 1099511627776) : List Bs := l.pmap Bs.mk h
theorem packB_length (l : List S92) (h : ∀ x ∈ l, 0 ≤ x.f0 ∧ x.f0 ≤ 1099511627776) : (packB l h).length = l.length := by simp [packB]
theorem packB_map (l : List S92) (h : ∀ x ∈ l, 0 ≤ x.f0 ∧ x.f0 ≤ 1099511627776) : (packB l h).map Bs.x = l := by
  unfold packB
  rw [List.map_pmap]
  simp
/-- The sorted row. -/
def sortV (l : List S92) (h : ∀ x ∈ l, 0 ≤ x.f0 ∧ x.f0 ≤ 1099511627776) : List S92 :=
  (Sort.pdq (ltOf cfB) (packB l h).toArray 0 l.length (Lib.bitLen l.length) true true).toList.map Bs.x
theorem sortV_spec (l : List S92) (h : ∀ x ∈ l, 0 ≤ x.f0 ∧ x.f0 ≤ 1099511627776) : (sortV l h).Perm l ∧ (sortV l h).Pairwise fun a b => a.f0 ≤ b.f0 := by
  have hz : (packB l h).toArray.size = l.length := by rw [List.size_toArray, packB_length]
  obtain ⟨⟨h1, _, h3⟩, h4⟩ := Sort.pdq_sorts (ltOf cfB) swoB (packB l h).toArray 0 l.length (Lib.bitLen l.length) true true (Nat.zero_le _) (by omega) (Or.inl rfl)
  unfold sortV
  generalize Sort.pdq (ltOf cfB) (packB l h).toArray 0 l.length (Lib.bitLen l.length) true true = d at h1 h3 h4
  rw [Array.extract_eq_self_of_le (by omega), Array.extract_eq_self_of_le (by omega)] at h3
  refine ⟨?_, ?_⟩
  · have := h3.map Bs.x
    rwa [List.toList_toArray, packB_map] at this
  · rw [List.pairwise_iff_getElem]
    intro i j hi hj hij
    simp only [List.length_map, Array.length_toList] at hi hj
    have := h4 i j (Nat.zero_le _) hij (by omega)
    rw [getElem!_pos d i hi, getElem!_pos d j hj, ltB] at this
    simp only [List.getElem_map, Array.getElem_toList]
    have := of_decide_eq_false this
    omega
/-- The closure of setOf. -/
theorem cmpB (a b : Bs) (W : World) : Calls Try.prog 124 #[.agg #[.int .i64 a.x.f0, .int .i64 a.x.f1], .agg #[.int .i64 b.x.f0, .int .i64 b.x.f1]] W fun e w' => e = .returned (.int .i64 (cfB a b)) ∧ ∃ q os', w' = Sort.grow (W.drewN q) os' := by
  have hu92 := Try.underlying92
  obtain ⟨⟨p, q⟩, h0, h1⟩ := a
  obtain ⟨⟨s, t⟩, h2, h3⟩ := b
  replace h0 : 0 ≤ p := h0
  replace h1 : p ≤ 1099511627776 := h1
  replace h2 : 0 ≤ s := h2
  replace h3 : s ≤ 1099511627776 := h3
  show Calls Try.prog 124 #[.agg #[.int .i64 p, .int .i64 q], .agg #[.int .i64 s, .int .i64 t]] W fun e w' => e = .returned (.int .i64 (p - s)) ∧ ∃ q os', w' = Sort.grow (W.drewN q) os'
  go_enter Try.func124, Try.ntmps124
  go_wp2
  go_ret
  exact ⟨rfl, 0, _, by rw [Sort.alloc_eq_grow, Sort.alloc_eq_grow, Sort.grow_grow]; rfl⟩
theorem cmpLaysB (blk off size : Nat) (w : World) : CmpLays Try.prog 124 #[] encB 2 cfB blk off size w := fun _ _ _ _ x y => cmpB x y _
theorem sw_heap (w : World) (g m : Nat) (d : Array Bs) (os : Array Obj) (i : Nat) (hi : i < w.heap.size) (hne : i ≠ g) : (sortWorldK encB 2 w g 0 m d os).heap[i]? = w.heap[i]? := by
  unfold sortWorldK
  rw [Sort.heap_grow_old _ _ (by show i < (w.heap.modify g _).size; simpa using hi)]
  show (w.heap.modify g _)[i]? = _
  simp [Array.getElem?_modify, Ne.symm hne]
theorem sw_at (w : World) (g m : Nat) (d : Array Bs) (os : Array Obj) (cur : Array Value) (e : Nat) (hg : w.heap[g]? = some (.cells cur e (0, 0))) :
    (sortWorldK encB 2 w g 0 m d os).heap[g]? = some (.cells (Sort.putCells id 0 (Sort.flatK encB 2 d) cur) e (0, 0)) := by
  have hi : g < w.heap.size := (Array.getElem?_eq_some_iff.1 hg).1
  unfold sortWorldK
  rw [Sort.heap_grow_old _ _ (by show g < (w.heap.modify g _).size; simpa using hi)]
  show (w.heap.modify g _)[g]? = _
  simp [Array.getElem?_modify, hg, Sort.onCells]
theorem sw_size (w : World) (g m : Nat) (d : Array Bs) (os : Array Obj) : w.heap.size ≤ (sortWorldK encB 2 w g 0 m d os).heap.size := by
  unfold sortWorldK
  show w.heap.size ≤ ((w.heap.modify g _) ++ os).size
  simp
theorem flat_get (d : Array Bs) (j : Nat) (hj : j < d.size) : (Sort.flatK encB 2 d)[j * 2]! = .int .i64 d[j].x.f0 ∧ (Sort.flatK encB 2 d)[j * 2 + 1]! = .int .i64 d[j].x.f1 := by
  rw [Sort.get_flatK _ _ _ _ (by omega), Sort.get_flatK _ _ _ _ (by omega), show j * 2 / 2 = j from by omega, show j * 2 % 2 = 0 from by omega, show (j * 2 + 1) / 2 = j from by omega, show (j * 2 + 1) % 2 = 1 from by omega, getElem!_pos d j hj]
  exact ⟨rfl, rfl⟩
/-- The row's cells are the elements', one behind the other. -/
theorem reps_flat (w : World) (base : Nat) (ok : Nat → Prop) (d : Array Bs) : Reps (k92.M w base ok) 2 (d.toList.map Bs.x) (Sort.flatK encB 2 d).toList := by
  refine ⟨by simp, fun j p hp => ?_⟩
  obtain ⟨hj, rfl⟩ := List.getElem?_eq_some_iff.1 hp
  simp only [List.length_map, Array.length_toList] at hj
  simp only [List.getElem_map, Array.getElem_toList]
  have hf := flat_get d j hj
  have hs : (Sort.flatK encB 2 d).size = d.size * 2 := Sort.size_flatK _ _ _
  rw [getElem!_pos _ _ (by omega), getElem!_pos _ _ (by omega)] at hf
  have e : ((Sort.flatK encB 2 d).toList.drop (j * 2)).take 2 = [.int .i64 d[j].x.f0, .int .i64 d[j].x.f1] := by
    rw [List.drop_eq_getElem_cons (by simp; omega), List.drop_eq_getElem_cons (by simp; omega)]
    simp only [List.take_succ_cons, List.take_zero, Array.getElem_toList, hf.1, hf.2]
  rw [e]
  exact k92_mkM _ _ _ _
theorem reps_inner {w : World} {base : Nat} {ok : Nat → Prop} {l : List S92} {inner : List Value} (h : ∀ x ∈ l, 0 ≤ x.f0 ∧ x.f0 ≤ 1099511627776) (hr : Reps (k92.M w base ok) 2 l inner) : inner = (Sort.flatK encB 2 (packB l h).toArray).toList := by
  have h2 := reps_flat w base ok (packB l h).toArray
  rw [List.toList_toArray, packB_map] at h2
  refine List.ext_getElem (by rw [hr.1, h2.1]) fun t ht1 ht2 => ?_
  have htl : t < l.length * 2 := by have := hr.1; omega
  have hj : t / 2 < l.length := by omega
  have e1 := k92_openM (hr.2 (t / 2) _ (List.getElem?_eq_getElem hj))
  have e2 := k92_openM (h2.2 (t / 2) _ (List.getElem?_eq_getElem hj))
  have e3 := e1.trans e2.symm
  have h3 : ((inner.drop (t / 2 * 2)).take 2)[t % 2]? = (((Sort.flatK encB 2 (packB l h).toArray).toList.drop (t / 2 * 2)).take 2)[t % 2]? := by rw [e3]
  rw [List.getElem?_take_of_lt (by omega), List.getElem?_take_of_lt (by omega), List.getElem?_drop, List.getElem?_drop, show t / 2 * 2 + t % 2 = t from by omega, List.getElem?_eq_getElem ht1, List.getElem?_eq_getElem ht2] at h3
  exact Option.some.inj h3
def impl_span.f (l0 : List S92) (a1 : Nat) : Option (List S92) :=
  if h : a1 = 124 ∧ l0.length < 2305843009213693952 ∧ ∀ x ∈ l0, 0 ≤ x.f0 ∧ x.f0 ≤ 1099511627776 then some (sortV l0 h.2.2) else none
set_option maxHeartbeats 4000000 in
theorem impl_span.calls (P0_ : Nat → Prop) (u9000_ : Value) (l0 : List S92) (a1 : Nat) (r : List S92) (w0 w : World) (hB : Below w0.heap.size w0 w) (ho0 : Kd.R k92 92 w w0.heap.size P0_ u9000_ l0) (h : impl_span.f l0 a1 = some r) :
    Calls Try.prog 123 #[u9000_, .func (.func a1) #[] #[]] w fun e w' => e = .returned (.tuple #[]) ∧ Kd.R k92 92 w' w0.heap.size (fun k_ => (P0_ k_ ∨ w.heap.size ≤ k_)) u9000_ r ∧ Below w0.heap.size w0 w' ∧ Kept w w' (fun k_ => P0_ k_) := by
  unfold impl_span.f at h
  split at h
  case isFalse => exact absurd h (by simp)
  case isTrue hc =>
    obtain rfl := Option.some.inj h
    clear h
    obtain ⟨rfl, hlen, hP⟩ := hc
    obtain ⟨hok, inner, ⟨hil, hor⟩, hrep⟩ := ho0
    have hin := reps_inner hP hrep
    have eg : ∀ args w, (callFunc 124 args).run Try.prog w = .ok (.enter 124 args) w := enters_of Try.func124 (by kernel_rfl) rfl
    by_cases hn : l0.length = 0
    · obtain rfl : l0 = [] := List.eq_nil_of_length_eq_zero hn
      have hv : ∃ p cap, u9000_ = .slice p 0 cap := by
        rcases hor with ⟨rfl, _⟩ | ⟨g, cap, cur, rfl, _⟩
        · exact ⟨_, _, rfl⟩
        · exact ⟨_, _, rfl⟩
      have hs : sortV [] hP = [] := List.Perm.eq_nil (sortV_spec [] hP).1
      rw [hs]
      have hR : Kd.R k92 92 w w0.heap.size (fun k_ => (P0_ k_ ∨ w.heap.size ≤ k_)) u9000_ [] := Kd.R_mono ⟨hok, inner, ⟨hil, hor⟩, hrep⟩ (fun _ hk => .inl hk)
      obtain ⟨p, cap, rfl⟩ := hv
      have hcon := AnyF.slices_SortFunc_none { lSort with } p cap (.func (.func 124) #[] #[]) w
      change Calls Try.prog 123 _ _ _ at hcon
      refine hcon.mono ?_
      rintro e w' ⟨rfl, rfl⟩
      exact ⟨rfl, hR, hB, Kept.refl _ _⟩
    · rcases hor with ⟨_, h0⟩ | ⟨g, cap, cur, rfl, hg, hh, hcap, hmax, hcs, htake⟩
      · exact absurd h0 hn
      · have hz : (packB l0 hP).toArray.size = l0.length := by rw [List.size_toArray, packB_length]
        have hgl : g < w.heap.size := (Array.getElem?_eq_some_iff.1 hh).1
        have hH : Sort.HoldsK encB 2 w g 0 (packB l0 hP).toArray := by
          intro j hj
          have hj2 : j < l0.length * 2 := by rw [Sort.size_flatK, hz] at hj; exact hj
          have hjc : j < cur.size := by
            have : l0.length * 2 ≤ cap * 2 := Nat.mul_le_mul_right _ hcap
            have hcs2 : cur.size = cap * 2 := hcs
            omega
          refine ⟨?_, ?_⟩
          · have e1 : inner[j]? = some cur[j] := by
              rw [← htake, List.getElem?_take_of_lt (show j < l0.length * k92.sz from hj2), Array.getElem?_toList, Array.getElem?_eq_getElem hjc]
            rw [hin, Array.getElem?_toList, Array.getElem?_eq_getElem hj] at e1
            rw [getElem!_pos (Sort.flatK encB 2 (packB l0 hP).toArray) j hj, Option.some.inj e1]
            simp [World.cell?, hh, hjc]
          · simp [World.frozen?, hh]
        have hcon := AnyQ.slices_SortFunc_eq lSort 2 Try.isAgg92 Try.sizeOf92 encB (fun _ => rfl) (fun x v hv => by simp [encB] at hv; rcases hv with rfl | rfl <;> rfl) cfB swoB 124 #[] g 0 cap (packB l0 hP).toArray w eg (cmpLaysB g 0 _ w) hH hgl (by rw [hz]; omega)
        rw [hz] at hcon
        have hspec := sortV_spec l0 hP
        have hsv : (Sort.pdq (ltOf cfB) (packB l0 hP).toArray 0 l0.length (Lib.bitLen l0.length) true true).toList.map Bs.x = sortV l0 hP := rfl
        generalize Sort.pdq (ltOf cfB) (packB l0 hP).toArray 0 l0.length (Lib.bitLen l0.length) true true = d at hcon hsv
        change Calls Try.prog 123 _ _ _ at hcon
        have hdl : d.size = l0.length := by rw [← hspec.1.length_eq, ← hsv]; simp
        refine hcon.mono ?_
        rintro e w' ⟨rfl, m, os, rfl⟩
        have hbelow : Below w0.heap.size w0 (sortWorldK encB 2 w g 0 m d os) :=
          ⟨hB.os, hB.tape, hB.output, Nat.le_trans hB.size (sw_size w g m d os), fun i hi => (sw_heap w g m d os i (Nat.lt_of_lt_of_le hi hB.size) (by omega)).trans (hB.block i hi)⟩
        refine ⟨rfl, ⟨fun k hk => .inl (hok k hk), (Sort.flatK encB 2 d).toList, ⟨?_, .inr ⟨g, cap, Sort.putCells id 0 (Sort.flatK encB 2 d) cur, ?_, hg, sw_at w g m d os cur _ hh, ?_, hmax, ?_, ?_⟩⟩, ?_⟩, hbelow, ⟨sw_size w g m d os, fun i hi hn2 => sw_heap w g m d os i hi (fun e => hn2 (e ▸ hok g rfl))⟩⟩
        · rw [← hsv]
          show (Sort.flatK encB 2 d).toList.length = (d.toList.map Bs.x).length * 2
          simp
        · rw [← hsv]; simp [hdl]
        · rw [← hsv]; simpa [hdl] using hcap
        · show (Sort.putCells id 0 (Sort.flatK encB 2 d) cur).size = cap * 2
          have hcs2 : cur.size = cap * 2 := hcs
          simp [Sort.putCells, hcs2]
        · show (Sort.putCells id 0 (Sort.flatK encB 2 d) cur).toList.take ((sortV l0 hP).length * 2) = _
          have hcs2 : cur.size = cap * 2 := hcs
          have hll : (sortV l0 hP).length = d.size := by rw [← hsv]; simp
          have hdc : d.size ≤ cap := by omega
          refine List.ext_getElem (by simp [Sort.putCells, hll, hcs2]; omega) fun t h1 h2 => ?_
          have ht : t < d.size * 2 := by simpa using h2
          simp only [List.getElem_take, Array.getElem_toList, Sort.putCells, Array.getElem_mapIdx, Nat.zero_le, Nat.zero_add, Sort.size_flatK, ht, and_self, if_true, Nat.sub_zero, id]
          rw [getElem!_pos]
        · rw [← hsv]
          exact reps_flat _ _ _ d

end Go.Proofs.Ytlmpeaelpchokaa.HFnExactFoldRe
