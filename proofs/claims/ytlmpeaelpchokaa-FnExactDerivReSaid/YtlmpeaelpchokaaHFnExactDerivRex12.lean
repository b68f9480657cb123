/- Written by wip/pr.py of this session, for the law FnExactDerivRe: Lean functions with the answers of the program's, and the proofs of that; where the kit's print has no word, by hand. -/
import Derived.Test.YtlmpeaelpchokaaHFnExactDerivRex0
import Derived.Test.YtlmpeaelpchokaaHFnExactDerivRex7
import Derived.Test.YtlmpeaelpchokaaHFnExactDerivRex9
import Derived.Test.YtlmpeaelpchokaaHFnExactDerivRex11
namespace Go.Proofs.Ytlmpeaelpchokaa.HFnExactDerivRe
set_option maxHeartbeats 8000000
set_option maxRecDepth 100000
open Go.RowKit Go.Proofs.YtlmpeaelpchokaaW.PrintWords Go.Proofs.YtlmpeaelpchokaaW.PrintLast Go.Proofs.YtlmpeaelpchokaaW.PrintMore

set_option linter.unusedVariables false
set_option linter.unusedSimpArgs false

def impl_spansOf.l0 : Nat → List Int → List (S92) → Int → Option ((List (S92)))
 | 0, _, _, _ => none
 | k + 1, x0, x3, x4 => if (wrap64 (x4 + 1)) < (x0.length : Int) then (if 0 ≤ x4 then (if x4 < (x0.length : Int) then (if 0 ≤ (wrap64 (x4 + 1)) then (if x3.length < 8796093022208 then (impl_spansOf.l0 k x0 (x3 ++ [(⟨rd x0 x4, rd x0 (wrap64 (x4 + 1))⟩ : S92)]) (wrap64 (x4 + 2))) else (none)) else (none)) else (none)) else (none)) else (some x3)
def impl_spansOf.f (k : Nat) (l0 : List Int) : Option ((List (S92))) := impl_spansOf.l0 k l0 (([] : List (S92))) 0
theorem impl_spansOf.mono_l : ∀ k, (∀ y0 y1 y2, LeO (impl_spansOf.l0 k y0 y1 y2) (impl_spansOf.l0 (k + 1) y0 y1 y2))
 | 0 => fun _ _ _ r h => by simp [impl_spansOf.l0] at h
 | k + 1 => by
  have ih0 := impl_spansOf.mono_l k
  ·intro y0 y1 y2
   unfold impl_spansOf.l0
   repeat' first
   | (with_reducible exact ih0 _ _ _)
   | (with_reducible exact LeO.refl _)
   | (with_reducible exact LeO.none _)
   | (with_reducible refine LeO.ite ?_ ?_)
   | (with_reducible refine LeO.bind ?_ (fun _ => ?_))
   | exact ih0 _ _ _
   | exact LeO.none _
   | refine LeO.ite ?_ ?_
   | refine LeO.bind ?_ (fun _ => ?_)
theorem impl_spansOf.mono : ∀ a0 k, LeO (impl_spansOf.f k a0) (impl_spansOf.f (k + 1) a0) := by
 intro a0 k
 have ih0 := impl_spansOf.mono_l k
 unfold impl_spansOf.f
 repeat' first
   | (with_reducible exact ih0 _ _ _)
   | (with_reducible exact LeO.refl _)
   | (with_reducible exact LeO.none _)
   | (with_reducible refine LeO.ite ?_ ?_)
   | (with_reducible refine LeO.bind ?_ (fun _ => ?_))
   | exact ih0 _ _ _
   | exact LeO.none _
   | refine LeO.ite ?_ ?_
   | refine LeO.bind ?_ (fun _ => ?_)
def impl_spansOf.T5 : Bool × List (List Nat × List Nat) := (true, [([], []), ([], []), ([], []), ([1, 2], [1, 2]), ([3], [3]), ([], []), ([], []), ([6], [6]), ([5, 7], [5, 7]), ([8], [8]), ([4, 9], [4, 9]), ([10], [10]), ([0, 11], [0, 11]), ([12, 12, 0, 1, 2, 3, 4, 5, 6, 7, 8, 9, 10, 11, 12], [0, 12])])
def impl_spansOf.B5 : List Nat := [0, 0, 0, 6, 14, 0, 0, 64, 224, 480, 1022, 2046, 4095, 8191]
theorem impl_spansOf.tab5 : rtab .any (opsOf Try.f102 5) = impl_spansOf.T5 := by kernel_rfl
theorem impl_spansOf.bits5 : waitsOk impl_spansOf.T5.2 impl_spansOf.B5 = true := by kernel_rfl
theorem impl_spansOf.calls (k : Nat) (A0 : Option Addr) (c0 : Nat) (l0 : List Int) (r : List (S92)) (w : World) (hr0 : Kd.C (Kd.int .i64) w A0 l0.length l0) (hc0 : l0.length ≤ c0) (h : impl_spansOf.f k l0 = some r) :
  Calls Try.prog 102 #[.slice A0 l0.length c0] w fun e w' => ∃ v0_ : Value, e = .returned (v0_) ∧ Kd.R k92 92 w' w.heap.size (fun _ => True) v0_ r ∧ Below w.heap.size w w' := by
 have hu92 := Try.underlying92
 have HR0 := Aside0.mk hr0
 have HC0 := Aside0.mk hc0
 clear hr0 hc0
 have HB := Aside0.mk (Below.refl w.heap.size w)
 have H : (impl_spansOf.l0 k l0 (([] : List (S92))) 0) = some r := h
 clear h
 obtain ⟨y503, hy503⟩ : ∃ y_ : List (S92), y_ = (([] : List (S92))) := ⟨_, rfl⟩
 replace H : (impl_spansOf.l0 k l0 y503 0) = some r := yz_ hy503 H
 have Ny503 := Aside0.mk hy503
 clear hy503
 have H' := Aside0.mk H
 clear H
 go_enter Try.func102, Try.ntmps102
 go_wp2_with (first | ((with_reducible refine gate_dst (N := 5) rfl ?_); refine Kd.R_lit k92 _ 92 ?hg (N := 5) ?hd (xs := ([] : List (S92))) (inner := []) (ok := fun _ => True) (okp := fun _ => True) ?hr ?hp (fun _ hk => hk) trivial (Below.refl _ _) (Nat.le_refl _) (by simp) ?_; (case hd => rfl); (case hg => rfl); (case hr => first | (go_simp; done) | (go_simp; rfl)); (case hp => exact (Reps.none _ _)); intro v504 w2 ho3 hb hg_ hnew_; clear hg_ hnew_; (first | rw [← Ny503.out] at ho3 | (simp only [Int.reduceToNat] at ho3; rw [← Ny503.out] at ho3)); have n0_ := Aside0.mk (Kd.R_lower ho3 (below_size bz_)); have n1_ := Aside0.mk (below_step bz_ hb); clear HB; have HO505 := n0_; have HB := n1_; clear n0_ n1_; clear hb ho3))
 go_loopg [3, 4] k (fun kq v3 v4 w' => ∃ (x3_1 : List (S92)) (x4_1 : Int), v4 = .int .i64 x4_1 ∧ Aside0 (impl_spansOf.l0 kq l0 x3_1 x4_1 = some r) ∧ Aside0 (kq ≤ k) ∧ Aside0 (Kd.R k92 92 w' w.heap.size (fun _ => True) v3 x3_1) ∧ Aside0 (Below w.heap.size w w'))
 case atStart => exact ⟨(y503), (0), rs_, H', ⟨Nat.le_refl _⟩, ⟨by (with_reducible repeat (first | apply Kd.R_alloc | apply Kd.R_drewN | apply Kd.R_drew)); exact HO505.out⟩, ⟨bz_⟩⟩
 case round =>
  clear H'
  try clear c1
  try clear p2
  obtain ⟨x3_1, x4_1, rfl, HA, HK1, HO_3, HB⟩ := hrel
  cases gk with
  | zero => exact absurd HA.out (by simp [impl_spansOf.l0])
  | succ k1 =>
   have H := HA.out
   clear HA
   simp only [impl_spansOf.l0] at H
   by_cases c4 : (wrap64 (x4_1 + 1)) < (l0.length : Int)
   ·rw [if_pos c4] at H
    have c4b0 := decide_eq_true c4
    clear c4
    by_cases c5 : 0 ≤ x4_1
    ·rw [if_pos c5] at H
     have c5b0 := decide_eq_true c5
     clear c5
     by_cases c6 : x4_1 < (l0.length : Int)
     ·rw [if_pos c6] at H
      have c6b0 := decide_eq_true c6
      clear c6
      obtain ⟨ji7, hji7⟩ : ∃ j_ : Int, (wrap64 (x4_1 + 1)) = j_ := ⟨_, rfl⟩
      replace H : (if 0 ≤ (ji7) then (if x3_1.length < 8796093022208 then (impl_spansOf.l0 k1 l0 (x3_1 ++ [(⟨rd l0 x4_1, rd l0 (ji7)⟩ : S92)]) (wrap64 (x4_1 + 2))) else (none)) else (none)) = some r := jz_ hji7 H
      (try rw [hji7] at c4b0)
      have hji7w : (IntKind.i64.wrap (x4_1 + 1)) = ji7 := (i64_w _).trans hji7
      by_cases c8 : 0 ≤ (ji7)
      ·rw [if_pos c8] at H
       have c8b0 := decide_eq_true c8
       clear c8
       by_cases c9 : x3_1.length < 8796093022208
       ·rw [if_pos c9] at H
        have LMc9 := Aside0.mk c9
        clear c9
        obtain ⟨y508, hy508⟩ : ∃ y_ : List (S92), y_ = (x3_1 ++ [(⟨rd l0 x4_1, rd l0 (ji7)⟩ : S92)]) := ⟨_, rfl⟩
        replace H : (impl_spansOf.l0 k1 l0 y508 (wrap64 (x4_1 + 2))) = some r := yz_ hy508 H
        have Ny508 := Aside0.mk hy508
        clear hy508
        have H' := Aside0.mk H
        clear H
        try go_wp2
        have n0_ := Aside0.mk (Kd.R_drew HO_3.out)
        have n1_ := Aside0.mk (below_drew1 HB.out)
        clear HO_3
        clear HB
        have HO_3 := n0_
        have HB := n1_
        clear n0_ n1_
        have p506 : 0 ≤ (x4_1 : Int) := of_decide_eq_true az_
        have q506 : x4_1 < (l0.length : Int) := of_decide_eq_true az_
        obtain ⟨ad506, e506, hx506_0⟩ := Kd.at_int HR0.out x4_1 p506 q506
        have hw506_0 := hx506_0
        cases e506
        replace hx506_0 := (HB.out.cell (World.block_lt_of_cell? w _ hx506_0)).trans hx506_0
        replace p506 := eq_true p506
        replace q506 := eq_true q506
        have p507 : 0 ≤ ((ji7) : Int) := of_decide_eq_true az_
        have q507 : (ji7) < (l0.length : Int) := of_decide_eq_true az_
        obtain ⟨ad507, e507, hx507_0⟩ := Kd.at_int HR0.out (ji7) p507 q507
        have hw507_0 := hx507_0
        obtain rfl : ad506 = ad507 := (by injection e507)
        replace hx507_0 := (HB.out.cell (World.block_lt_of_cell? w _ hx507_0)).trans hx507_0
        replace p507 := eq_true p507
        replace q507 := eq_true q507
        refine start_ (n := 14) (S := fun w' => w'.cell? (ad506.add (x4_1).toNat) = some (.int .i64 (rd l0 x4_1)) ∧ w'.cell? (ad506.add ((ji7)).toNat) = some (.int .i64 (rd l0 (ji7)))) (ds := []) #[false, false, false, false, false, false, false, false, false, false, false, false, false, false] (by kernel_rfl) rfl rfl ⟨((HB.out.cell (World.block_lt_of_cell? w _ hw506_0)).trans hw506_0), ((HB.out.cell (World.block_lt_of_cell? w _ hw507_0)).trans hw507_0)⟩ (fun hHeld => ?_); refine with_tabW impl_spansOf.tab5 impl_spansOf.bits5 (fun HT_ HW_ => ?_)
        generalize wr.drew = w10 at HO_3 HB hx506_0 hx507_0 hHeld ⊢
        refine pure_ (i := 0) (N := some 13) (v := ?_) (a' := ?_) #[true, false, false, false, false, false, false, false, false, false, false, false, false, false] rfl rfl (any_of HT_.out (by kernel_rfl)) (fun _ _ _ h => h) (Or.inl ⟨by rfl, ?_⟩) ?_ ?_
        rotate_left
        ·intro w'
         go_simp
         with_reducible rfl
        rotate_left
        ·simp only [Act.put, List.setIfInBounds_toArray, List.set_cons_zero, List.set_cons_succ, i64_w, i32_w]
         rfl
        refine pure_ (i := 1) (N := some 14) (v := ?_) (a' := ?_) #[true, true, false, false, false, false, false, false, false, false, false, false, false, false] rfl rfl (any_of HT_.out (by kernel_rfl)) (fun _ _ _ h => h) (Or.inl ⟨by rfl, ?_⟩) ?_ ?_
        rotate_left
        ·intro w'
         go_simp
         with_reducible rfl
        rotate_left
        ·simp only [Act.put, List.setIfInBounds_toArray, List.set_cons_zero, List.set_cons_succ, i64_w, i32_w]
         rfl
        refine pure_ (i := 2) (N := some 15) (v := ?_) (a' := ?_) #[true, true, true, false, false, false, false, false, false, false, false, false, false, false] rfl rfl (any_of HT_.out (by kernel_rfl)) (fun _ _ _ h => h) (Or.inl ⟨by rfl, ?_⟩) ?_ ?_
        rotate_left
        ·intro w'
         go_simp
         with_reducible rfl
        rotate_left
        ·simp only [Act.put, List.setIfInBounds_toArray, List.set_cons_zero, List.set_cons_succ, i64_w, i32_w]
         rfl
        refine pure_ (i := 3) (N := some 16) (v := ?_) (a' := ?_) #[true, true, true, true, false, false, false, false, false, false, false, false, false, false] rfl rfl (any_of HT_.out (by kernel_rfl)) (fun _ _ _ h => h) (Or.inl ⟨by rfl, ?_⟩) ?_ ?_
        rotate_left
        ·intro w'
         go_simp
         with_reducible rfl
        rotate_left
        ·simp only [Act.put, List.setIfInBounds_toArray, List.set_cons_zero, List.set_cons_succ, i64_w, i32_w]
         rfl
        refine pure_ (i := 5) (N := some 18) (v := ?_) (a' := ?_) #[true, true, true, true, false, true, false, false, false, false, false, false, false, false] rfl rfl (any_of HT_.out (by kernel_rfl)) (fun _ _ _ h => h) (Or.inl ⟨by rfl, ?_⟩) ?_ ?_
        rotate_left
        ·intro w'
         go_simp
         with_reducible rfl
        rotate_left
        ·simp only [Act.put, List.setIfInBounds_toArray, List.set_cons_zero, List.set_cons_succ, i64_w, i32_w]
         rfl
        refine pure_ (i := 6) (N := some 19) (v := ?_) (a' := ?_) #[true, true, true, true, false, true, true, false, false, false, false, false, false, false] rfl rfl (any_of HT_.out (by kernel_rfl)) (fun _ _ _ h => h) (Or.inl ⟨by rfl, ?_⟩) ?_ ?_
        rotate_left
        ·intro w'
         go_simp
         with_reducible rfl
        rotate_left
        ·simp only [Act.put, List.setIfInBounds_toArray, List.set_cons_zero, List.set_cons_succ, i64_w, i32_w]
         rfl
        refine pure_ (i := 7) (N := some 20) (v := ?_) (a' := ?_) #[true, true, true, true, false, true, true, true, false, false, false, false, false, false] rfl rfl (any_of HT_.out (by kernel_rfl)) (fun _ _ _ h => h) (Or.inl ⟨by rfl, ?_⟩) ?_ ?_
        rotate_left
        ·intro w'
         go_simp
         with_reducible rfl
        rotate_left
        ·simp only [Act.put, List.setIfInBounds_toArray, List.set_cons_zero, List.set_cons_succ, i64_w, i32_w]
         rfl
        refine pure_ (i := 8) (N := some 21) (v := ?_) (a' := ?_) #[true, true, true, true, false, true, true, true, true, false, false, false, false, false] rfl rfl (any_of HT_.out (by kernel_rfl)) (fun _ _ _ h => h) (Or.inl ⟨by rfl, ?_⟩) ?_ ?_
        rotate_left
        ·intro w'
         go_simp
         with_reducible rfl
        rotate_left
        ·simp only [Act.put, List.setIfInBounds_toArray, List.set_cons_zero, List.set_cons_succ, i64_w, i32_w]
         rfl
        refine take_ (i := 4) (N := some 17) (v := ?_) (a' := ?_) #[true, true, true, true, true, true, true, true, true, false, false, false, false, false] rfl rfl (take_ofW HT_.out HW_.out (by kernel_rfl)) (fun _ _ _ h => h) (Or.inl ⟨by rfl, ?_⟩) hHeld ?_ ?_
        rotate_left
        ·rintro w' ⟨s0, s1⟩
         go_simp
         with_reducible rfl
        rotate_left
        ·simp only [Act.put, List.setIfInBounds_toArray, List.set_cons_zero, List.set_cons_succ, i64_w, i32_w]
         rfl
        refine take_ (i := 9) (N := some 22) (v := ?_) (a' := ?_) #[true, true, true, true, true, true, true, true, true, true, false, false, false, false] rfl rfl (take_ofW HT_.out HW_.out (by kernel_rfl)) (fun _ _ _ h => h) (Or.inl ⟨by rfl, ?_⟩) hHeld ?_ ?_
        rotate_left
        ·rintro w' ⟨s0, s1⟩
         go_simp
         with_reducible rfl
        rotate_left
        ·simp only [Act.put, List.setIfInBounds_toArray, List.set_cons_zero, List.set_cons_succ, i64_w, i32_w]
         rfl
        refine pure_ (i := 10) (N := some 23) (v := ?_) (a' := ?_) #[true, true, true, true, true, true, true, true, true, true, true, false, false, false] rfl rfl (any_of HT_.out (by kernel_rfl)) (fun _ _ _ h => h) (Or.inl ⟨by rfl, ?_⟩) ?_ ?_
        rotate_left
        ·intro w'
         go_simp
         with_reducible rfl
        rotate_left
        ·simp only [Act.put, List.setIfInBounds_toArray, List.set_cons_zero, List.set_cons_succ, i64_w, i32_w]
         rfl
        refine one_ (i := 11) (N := some 24) #[true, true, true, true, true, true, true, true, true, true, true, true, false, false] rfl rfl (one_of HT_.out (by kernel_rfl)) (by decide) (fun K hK => ?_)
        refine value_ (w1 := ?_) (v := ?_) (by rfl) rfl ?_ ?_
        rotate_left 2
        ·go_simp
         constructor
         ·rfl
         ·rfl
        refine hK.out _ _ ⟨(World.cell?_alloc_lt _ _ _ (World.block_lt_of_cell? _ _ (((HB.out.cell (World.block_lt_of_cell? w _ hw506_0)).trans hw506_0)))).trans (((HB.out.cell (World.block_lt_of_cell? w _ hw506_0)).trans hw506_0)), (World.cell?_alloc_lt _ _ _ (World.block_lt_of_cell? _ _ (((HB.out.cell (World.block_lt_of_cell? w _ hw507_0)).trans hw507_0)))).trans (((HB.out.cell (World.block_lt_of_cell? w _ hw507_0)).trans hw507_0))⟩ (fun hHeld => ?_)
        clear hK K
        refine norm_ (a' := ?_) ?_ ?_
        rotate_left
        ·show Act.put _ (some 24) _ = _
         simp only [Act.put, List.setIfInBounds_toArray, List.set_cons_zero, List.set_cons_succ, i64_w, i32_w]
         rfl
        refine one_ (i := 12) (N := some 25) #[true, true, true, true, true, true, true, true, true, true, true, true, true, false] rfl rfl (one_of HT_.out (by kernel_rfl)) (by decide) (fun K hK => ?_)
        refine Kd.R_append_step k92 (w0 := w) w.heap.size (by rfl) (.tmp 13) (.tmp 24) 89 92 (.agg #[(.int .i64 0), (.int .i64 0)]) 16 rfl Try.underlying89 info92 rfl (by decide) (by omega) u3 x3_1 (⟨rd l0 x4_1, rd l0 (ji7)⟩ : S92) [.int .i64 (rd l0 x4_1), .int .i64 (rd l0 (ji7))] (fun _ => True) (fun _ => False) rfl rfl ?aP (fun _ hk => hk.elim) ?aF ?aO ?aB ?aS ?aL ?_
        (case aP => exact k92_mkM _ _ _ (⟨rd l0 x4_1, rd l0 (ji7)⟩ : S92))
        (case aB => exact bz_)
        (case aF => exact (fun _ _ => trivial))
        (case aO => exact (rz_ HO_3.out))
        (case aS => exact (below_size bz_))
        (case aL => have := LMc9.out; omega)
        intro v509 w11 ho hb hg hat
        rw [← Ny508.out] at ho
        have n0_ := Aside0.mk (hb)
        have n1_ := Aside0.mk (ho)
        clear HB
        clear HO_3
        have HB := n0_
        have HO510 := n1_
        clear n0_ n1_
        clear ho hb hg hat
        refine hK.out _ _ ⟨((HB.out.cell (World.block_lt_of_cell? w _ hw506_0)).trans hw506_0), ((HB.out.cell (World.block_lt_of_cell? w _ hw507_0)).trans hw507_0)⟩ (fun hHeld => ?_)
        clear hK K
        refine norm_ (a' := ?_) ?_ ?_
        rotate_left
        ·show Act.put _ (some 25) _ = _
         simp only [Act.put, List.setIfInBounds_toArray, List.set_cons_zero, List.set_cons_succ, i64_w, i32_w]
         rfl
        refine pure_ (i := 13) (N := some 3) (v := ?_) (a' := ?_) #[true, true, true, true, true, true, true, true, true, true, true, true, true, true] rfl rfl (any_of HT_.out (by kernel_rfl)) (fun _ _ _ h => h) (Or.inl ⟨by rfl, ?_⟩) ?_ ?_
        rotate_left
        ·intro w'
         go_simp
         with_reducible rfl
        rotate_left
        ·simp only [Act.put, List.setIfInBounds_toArray, List.set_cons_zero, List.set_cons_succ, i64_w, i32_w]
         rfl
        refine done_ (done_of HT_.out (by kernel_rfl)) ?_
        try go_wp2
        go_roundg k1
        case measure => have := HK1.out; omega
        case rel => exact ⟨(y508), (wrap64 (x4_1 + 2)), rs_, H', ⟨by have := HK1.out; omega⟩, ⟨by (with_reducible repeat (first | apply Kd.R_alloc | apply Kd.R_drewN | apply Kd.R_drew)); exact HO510.out⟩, ⟨bz_⟩⟩
       ·rw [if_neg c9] at H
        exact absurd H (by simp)
      ·rw [if_neg c8] at H
       exact absurd H (by simp)
     ·rw [if_neg c6] at H
      exact absurd H (by simp)
    ·rw [if_neg c5] at H
     exact absurd H (by simp)
   ·rw [if_neg c4] at H
    have c4b0 := decide_eq_false c4
    clear c4
    obtain rfl := Option.some.inj H
    go_wp2
    go_ret
    exact ⟨_, rr_, rz_ HO_3.out, bz_⟩

theorem ixSpan (p : S92 → Bool) (g : Nat) (lb : Array Value) (eg : ∀ args w, (callFunc g args).run Try.prog w = .ok (.enter g args) w) (A : Option Addr) (c : Nat) (zs : List S92) (w : World)
  (hp : ∀ (W : World) (x : S92), Below w.heap.size w W → Calls Try.prog g (#[.agg #[.int .i64 x.f0, .int .i64 x.f1]] ++ lb) W fun e w' => e = .returned (.bool (p x)) ∧ Below W.heap.size W w')
  (hr : Kd.C k92 w A zs.length zs) :
  Calls Try.prog 133 #[.slice A zs.length c, .func (.func g) #[] lb] w fun e w' => e = .returned (.int .i64 (ixOf p zs)) ∧ Below w.heap.size w w' := by
 have hu92 := Try.underlying92
 have hbig : zs.length ≤ 9223372036854775807 := hr.2.1
 have HR := Aside0.mk hr
 have HP := Aside0.mk hp
 clear hr hp
 go_enter Try.func133, Try.ntmps133
 go_wp2
 go_loopg [5, 8] zs.length (fun gg _ s8 wr => ∃ kk : Nat, kk ≤ zs.length ∧ zs.length - kk ≤ gg ∧ s8 = .int .i64 kk ∧ Aside0 (Below w.heap.size w wr) ∧ Aside0 (∀ j (hj : j < zs.length), j < kk → p zs[j] = false))
 case atStart => exact ⟨0, Nat.zero_le _, by omega, rfl, ⟨Below.refl _ _⟩, ⟨fun j _ hj => absurd hj (Nat.not_lt_zero _)⟩⟩
 case round =>
  obtain ⟨kk, hkk, hg, rfl, HB, HA⟩ := hrel
  by_cases hlt : kk < zs.length
  ·have hltz : (kk : Int) < (zs.length : Int) := by omega
   obtain ⟨ad, e0, hx0, hx1⟩ := at_T92 HR.out (kk : Int) (by omega) hltz
   subst e0
   have ek : rd_T92 zs (kk : Int) = zs[kk] := by unfold rd_T92; simp [List.getD_eq_getElem?_getD, hlt]
   rw [ek] at hx0 hx1
   simp only [Int.toNat_natCast] at hx0 hx1
   replace hx0 := (HB.out.cell (World.block_lt_of_cell? w _ hx0)).trans hx0
   replace hx1 := (HB.out.cell (World.block_lt_of_cell? w _ hx1)).trans hx1
   have EK := Aside0.mk ek
   clear ek
   have hcall := HP.out _ zs[kk] HB.out
   cases hq : p zs[kk] with
   | true =>
    rw [hq] at hcall
    have HQ := Aside0.mk hq
    clear hq
    go_wp2_with (go_at_fn g; refine hcall.mono ?_; rintro e w' ⟨rfl, hb⟩)
    go_ret
    exact ⟨by rw [ixOf_hit p zs kk hlt HA.out HQ.out]; rfl, HB.out.trans (hb.mono HB.out.size)⟩
   | false =>
    rw [hq] at hcall
    have HQ := Aside0.mk hq
    clear hq
    go_wp2_with (go_at_fn g; refine hcall.mono ?_; rintro e w' ⟨rfl, hb⟩)
    go_roundg (zs.length - (kk + 1))
    case measure => omega
    case rel =>
     refine ⟨kk + 1, by omega, by omega, by go_num, ⟨HB.out.trans (hb.mono HB.out.size)⟩, ⟨fun j hj hjk => ?_⟩⟩
     by_cases e : j = kk
     ·subst e
      exact HQ.out
     ·exact HA.out j hj (by omega)
  ·have hltz : ¬ (kk : Int) < (zs.length : Int) := by omega
   have hk2 : kk = zs.length := by omega
   have HK := Aside0.mk hk2
   clear hk2
   go_wp2
   go_ret
   exact ⟨by rw [ixOf_miss p zs (fun j hj => HA.out j hj (by rw [HK.out]; exact hj))]; rfl, HB.out⟩

theorem hasSpan (p : S92 → Bool) (g : Nat) (lb : Array Value) (eg : ∀ args w, (callFunc g args).run Try.prog w = .ok (.enter g args) w) (A : Option Addr) (c : Nat) (zs : List S92) (w : World)
  (hp : ∀ (W : World) (x : S92), Below w.heap.size w W → Calls Try.prog g (#[.agg #[.int .i64 x.f0, .int .i64 x.f1]] ++ lb) W fun e w' => e = .returned (.bool (p x)) ∧ Below W.heap.size W w')
  (hr : Kd.C k92 w A zs.length zs) :
  Calls Try.prog 121 #[.slice A zs.length c, .func (.func g) #[] lb] w fun e w' => e = .returned (.bool (zs.any p)) ∧ Below w.heap.size w w' := by
 have hc := ixSpan p g lb eg A c zs w hp hr
 have h2 := (ixOf_any p zs).1
 clear hp hr
 generalize ixOf p zs = i at hc h2
 have H2 := Aside0.mk h2
 clear h2
 go_enter Try.func121, Try.ntmps121
 go_wp2_with (go_at_call 133; refine hc.mono ?_; rintro e w' ⟨rfl, hb⟩)
 go_ret
 exact ⟨by rw [H2.out]; rfl, hb⟩

/-- Does a span have a number? -/
def spanHas (r : Int) (x : S92) : Bool := decide (x.f0 ≤ r ∧ r ≤ x.f1)
/-- The closure of inSet. -/
theorem inSet_pred (r : Int) (B : Nat) (w : World) (hB : B < w.heap.size) (hcell : w.cell? ⟨B, 0, none⟩ = some (.int .i64 r)) (W : World) (x : S92) (hb : Below w.heap.size w W) :
  Calls Try.prog 122 (#[.agg #[.int .i64 x.f0, .int .i64 x.f1]] ++ #[.pointer (some ⟨B, 0, none⟩)]) W fun e w' => e = .returned (.bool (spanHas r x)) ∧ Below W.heap.size W w' := by
 have hu92 := Try.underlying92
 have hc : W.cell? ⟨B, 0, none⟩ = some (.int .i64 r) := (hb.cell (p := ⟨B, 0, none⟩) hB).trans hcell
 have hBW : B < W.heap.size := Nat.lt_of_lt_of_le hB hb.size
 have hne : B ≠ W.heap.size := by omega
 have hv : impl_inRange.f r x.f0 x.f1 = some (spanHas r x) := by
  unfold impl_inRange.f spanHas
  by_cases h : x.f0 ≤ r
  ·rw [if_pos h]; simp [h]
  ·rw [if_neg h]; simp [h]
 generalize spanHas r x = q at hv
 have HV := Aside0.mk hv
 have HBW := Aside0.mk hb.size
 clear hv hb hcell
 show Calls Try.prog 122 #[.agg #[.int .i64 x.f0, .int .i64 x.f1], .pointer (some ⟨B, 0, none⟩)] W _
 go_enter Try.func122, Try.ntmps122
 go_wp2_with (go_at_call 44; refine (impl_inRange.calls _ _ _ q _ HV.out).mono ?_; rintro e w' ⟨rfl, ⟨nd, rfl⟩⟩)
 go_ret
 exact ⟨rfl, be_⟩

def inSpans (r : Int) (l : List S92) : Bool := l.any (spanHas r)
def impl_inSet.f (k : Nat) (l0 : List Int) (a1 : Int) : Option (Bool) := (impl_spansOf.f k l0).bind fun t => some (inSpans a1 t)
theorem impl_inSet.mono : ∀ a0 a1 k, LeO (impl_inSet.f k a0 a1) (impl_inSet.f (k + 1) a0 a1) := fun a0 _ k => LeO.bind (impl_spansOf.mono a0 k) (fun _ => LeO.refl _)
theorem impl_inSet.calls (k : Nat) (A0 : Option Addr) (c0 : Nat) (l0 : List Int) (a1 : Int) (r : Bool) (w : World) (hr0 : Kd.C (Kd.int .i64) w A0 l0.length l0) (hc0 : l0.length ≤ c0) (h : impl_inSet.f k l0 a1 = some r) :
  Calls Try.prog 103 #[.slice A0 l0.length c0, .int .i64 a1] w fun e w' => e = .returned (.bool r) ∧ Below w.heap.size w w' := by
 obtain ⟨t, h1, h2⟩ := Option.bind_eq_some_iff.1 h
 obtain rfl := Option.some.inj h2
 clear h h2
 have HW : Below w.heap.size w (w.alloc (.cells #[.int .i64 a1] 3)) := below_alloc (Below.refl _ _) _
 have hr1 : Kd.C (Kd.int .i64) (w.alloc (.cells #[.int .i64 a1] 3)) A0 l0.length l0 := Kd.C_below hr0 HW
 have hcell : (w.alloc (.cells #[.int .i64 a1] 3)).cell? ⟨w.heap.size, 0, none⟩ = some (.int .i64 a1) := by simp
 have hsz : w.heap.size < (w.alloc (.cells #[.int .i64 a1] 3)).heap.size := by simp
 have eg : ∀ args w, (callFunc 122 args).run Try.prog w = .ok (.enter 122 args) w := enters_of Try.func122 (by kernel_rfl) rfl
 have cS := impl_spansOf.calls k A0 c0 l0 t _ hr1 hc0 h1
 have CS := Aside0.mk cS
 have HWA := Aside0.mk HW
 have HC := Aside0.mk hcell
 have HS := Aside0.mk hsz
 clear cS HW hr0 hr1 hcell hsz h1 hc0
 go_enter Try.func103, Try.ntmps103
 go_wp2_with fail
 refine CS.out.mono ?_
 rintro e w1 ⟨v0, rfl, hR, hb1⟩
 obtain ⟨A1, c1, rfl, hlen, hC⟩ := Kd.R_reads hR
 have cH := hasSpan (spanHas a1) 122 #[.pointer (some ⟨w.heap.size, 0, none⟩)] eg A1 c1 t w1 (fun W x hb => inSet_pred a1 w.heap.size w1 (Nat.lt_of_lt_of_le HS.out hb1.size) ((hb1.cell (p := ⟨w.heap.size, 0, none⟩) HS.out).trans HC.out) W x hb) hC
 have CH := Aside0.mk cH
 have HB1 := Aside0.mk hb1
 clear cH hb1 hR hC
 go_wp2_with fail
 refine CH.out.mono ?_
 rintro e w2 ⟨rfl, hb2⟩
 go_wp2
 go_ret
 exact ⟨by first | rfl | (unfold inSpans; rfl), (HWA.out.trans (HB1.out.mono HWA.out.size)).trans (hb2.mono (Nat.le_trans HWA.out.size HB1.out.size))⟩

/-- Some place from lo to hi fits. -/
def anyFT (lo hi : Nat) (f : Nat → Bool) : Bool := (List.range (hi + 1)).any fun m => decide (lo ≤ m) && f m
theorem anyFT_true {lo hi : Nat} {f : Nat → Bool} (m : Nat) (h1 : lo ≤ m) (h2 : m ≤ hi) (h : f m = true) : anyFT lo hi f = true := by
 unfold anyFT
 rw [List.any_eq_true]
 exact ⟨m, List.mem_range.2 (by omega), by rw [decide_eq_true h1, h]; rfl⟩
theorem anyFT_false {lo hi : Nat} {f : Nat → Bool} (h : ∀ m, lo ≤ m → m ≤ hi → f m = false) : anyFT lo hi f = false := by
 unfold anyFT
 rw [List.any_eq_false]
 intro m hm
 by_cases g : lo ≤ m
 ·rw [h m g (by have := List.mem_range.1 hm; omega)]; simp
 ·rw [decide_eq_false g]; simp
theorem look_nil (g : Nat) (p : List S49) (parts : List (List Int)) (l : List Int) (table : List (List (List Bool))) (n node a b : Nat) (w : World) (hM : MS w g p parts l table) (hD : Dims table n) (hl : l.length = n) (hn : node < p.length) (hq : node < parts.length) (hb : b ≤ n) (hab : a ≤ b) (hn1 : n ≤ 1000000) (hop : (rd_T49 p (node : Int)).f0 = 1) :
  Calls Try.prog 92 #[.pointer (some ⟨g, 0, none⟩), .int .i64 (node : Int), .int .i64 (a : Int), .int .i64 (b : Int)] w fun e w' => e = .returned (.bool (decide (a = b))) ∧ Below w.heap.size w w' := by
 have hM' := hM
 obtain ⟨A0, c0, A1, c1, A2, c2, A3, c3, HG, H0, H1, H2, H3⟩ := hM'
 have hcz0 : w.cell? ⟨g, 0, none⟩ = some (.slice A0 p.length c0) := (blk_cell HG 0).trans rfl
 have hcz1 : w.cell? ⟨g, 1, none⟩ = some (.slice A1 parts.length c1) := (blk_cell HG 1).trans rfl
 have hcz2 : w.cell? ⟨g, 2, none⟩ = some (.slice A2 l.length c2) := (blk_cell HG 2).trans rfl
 clear HG H3
 obtain ⟨ad1, A4, c4, e1, hx1, hl1, hi1⟩ := at_sl H1 node hq
 generalize parts.getD node [] = ks at *
 obtain ⟨ad2, A5, c5, e2, hy1, hy2, hl2, hi2⟩ := at_T49 H0 (node : Int) (by omega) (by omega)
 cases e1
 cases e2
 rw [Int.toNat_natCast] at hy1 hy2
 rw [show (rd_T49 p (node : Int)).f0 = 1 from hop] at hy1
 have r1 : decide (node < p.length) = true := decide_eq_true hn
 have r2 : decide (node < parts.length) = true := decide_eq_true hq
 clear hM hD H0 H1 H2 hi1 hi2 hl1 hl2 hop
 have e : decide (a = b) = ((a : Int) == (b : Int)) := by rw [Bool.eq_iff_iff, decide_eq_true_iff, beq_iff_eq]; omega
 rw [e]
 go_enter Try.func92, Try.ntmps92
 go_wp2
 go_ret
 exact ⟨by first | rfl | (simp; done), be_⟩
theorem look_set_no (g : Nat) (p : List S49) (parts : List (List Int)) (l : List Int) (table : List (List (List Bool))) (n node a b : Nat) (w : World) (hM : MS w g p parts l table) (hD : Dims table n) (hl : l.length = n) (hn : node < p.length) (hq : node < parts.length) (hb : b ≤ n) (hab : a ≤ b) (hn1 : n ≤ 1000000) (hop : (rd_T49 p (node : Int)).f0 = 2) (hw : ¬ b = a + 1) :
  Calls Try.prog 92 #[.pointer (some ⟨g, 0, none⟩), .int .i64 (node : Int), .int .i64 (a : Int), .int .i64 (b : Int)] w fun e w' => e = .returned (.bool (false)) ∧ Below w.heap.size w w' := by
 have hM' := hM
 obtain ⟨A0, c0, A1, c1, A2, c2, A3, c3, HG, H0, H1, H2, H3⟩ := hM'
 have hcz0 : w.cell? ⟨g, 0, none⟩ = some (.slice A0 p.length c0) := (blk_cell HG 0).trans rfl
 have hcz1 : w.cell? ⟨g, 1, none⟩ = some (.slice A1 parts.length c1) := (blk_cell HG 1).trans rfl
 have hcz2 : w.cell? ⟨g, 2, none⟩ = some (.slice A2 l.length c2) := (blk_cell HG 2).trans rfl
 clear HG H3
 obtain ⟨ad1, A4, c4, e1, hx1, hl1, hi1⟩ := at_sl H1 node hq
 generalize parts.getD node [] = ks at *
 obtain ⟨ad2, A5, c5, e2, hy1, hy2, hl2, hi2⟩ := at_T49 H0 (node : Int) (by omega) (by omega)
 cases e1
 cases e2
 rw [Int.toNat_natCast] at hy1 hy2
 rw [show (rd_T49 p (node : Int)).f0 = 2 from hop] at hy1
 have r1 : decide (node < p.length) = true := decide_eq_true hn
 have r2 : decide (node < parts.length) = true := decide_eq_true hq
 clear hM hD H0 H1 H2 hi1 hi2 hl1 hl2 hop
 have t1 : IntKind.i64.wrap ((a : Int) + 1) = (a : Int) + 1 := by rw [IntKind.wrap_i64]; omega
 have t2 : ((b : Int) == (a : Int) + 1) = false := beq_eq_false_iff_ne.mpr (by omega)
 go_enter Try.func92, Try.ntmps92
 go_wp2
 go_quiet (fail)
 go_wp2
 go_ret
 exact ⟨rfl, be_⟩
theorem look_or0 (g : Nat) (p : List S49) (parts : List (List Int)) (l : List Int) (table : List (List (List Bool))) (n node a b : Nat) (w : World) (hM : MS w g p parts l table) (hD : Dims table n) (hl : l.length = n) (hn : node < p.length) (hq : node < parts.length) (hb : b ≤ n) (hab : a ≤ b) (hn1 : n ≤ 1000000) (hop : (rd_T49 p (node : Int)).f0 = 4) (k0 k1 : Nat) (hk : 1 < (parts.getD node []).length) (h0 : rd (parts.getD node []) 0 = (k0 : Int)) (h1 : rd (parts.getD node []) 1 = (k1 : Int)) (g0 : k0 < table.length) (g1 : k1 < table.length) (v0 : mhv table k0 a b = true) :
  Calls Try.prog 92 #[.pointer (some ⟨g, 0, none⟩), .int .i64 (node : Int), .int .i64 (a : Int), .int .i64 (b : Int)] w fun e w' => e = .returned (.bool (true)) ∧ Below w.heap.size w w' := by
 have hM' := hM
 obtain ⟨A0, c0, A1, c1, A2, c2, A3, c3, HG, H0, H1, H2, H3⟩ := hM'
 have hcz0 : w.cell? ⟨g, 0, none⟩ = some (.slice A0 p.length c0) := (blk_cell HG 0).trans rfl
 have hcz1 : w.cell? ⟨g, 1, none⟩ = some (.slice A1 parts.length c1) := (blk_cell HG 1).trans rfl
 have hcz2 : w.cell? ⟨g, 2, none⟩ = some (.slice A2 l.length c2) := (blk_cell HG 2).trans rfl
 clear HG H3
 obtain ⟨ad1, A4, c4, e1, hx1, hl1, hi1⟩ := at_sl H1 node hq
 generalize parts.getD node [] = ks at *
 obtain ⟨ad2, A5, c5, e2, hy1, hy2, hl2, hi2⟩ := at_T49 H0 (node : Int) (by omega) (by omega)
 cases e1
 cases e2
 rw [Int.toNat_natCast] at hy1 hy2
 rw [show (rd_T49 p (node : Int)).f0 = 4 from hop] at hy1
 have r1 : decide (node < p.length) = true := decide_eq_true hn
 have r2 : decide (node < parts.length) = true := decide_eq_true hq
 obtain ⟨ad3, e3, hk0⟩ := Kd.at_int hi1 0 (by omega) (by omega)
 cases e3
 rw [show ((0 : Int)).toNat = 0 from rfl, Addr.add_zero', show rd ks 0 = ((k0 : Nat) : Int) from h0] at hk0
 have s0 : decide ((0 : Int) < (ks.length : Int)) = true := decide_eq_true (by omega)
 have s0' : (0 : Nat) < ks.length := by omega
 obtain ⟨ad4, e4, hk1⟩ := Kd.at_int hi1 1 (by omega) (by omega)
 cases e4
 rw [show rd ks 1 = ((k1 : Nat) : Int) from h1] at hk1
 replace hk1 : w.cell? ⟨ad3.block, ad3.off + 1, none⟩ = some (.int .i64 ((k1 : Nat) : Int)) := hk1
 have s1 : decide ((1 : Int) < (ks.length : Int)) = true := decide_eq_true (by omega)
 have s1' : (1 : Nat) < ks.length := by omega
 have C0 := mhas.calls g p parts l table n k0 a b w hM hD g0 (by omega) hb
 rw [v0] at C0
 clear hM hD H0 H1 H2 hi1 hi2 hl1 hl2 hop hk h0 h1 v0
 go_enter Try.func92, Try.ntmps92
 go_wp2_with (first | (go_at_call 64; (with_reducible refine C0.mono ?_); rintro e w' ⟨rfl, rfl⟩))
 go_ret
 exact ⟨rfl, be_⟩
theorem look_or1 (g : Nat) (p : List S49) (parts : List (List Int)) (l : List Int) (table : List (List (List Bool))) (n node a b : Nat) (w : World) (hM : MS w g p parts l table) (hD : Dims table n) (hl : l.length = n) (hn : node < p.length) (hq : node < parts.length) (hb : b ≤ n) (hab : a ≤ b) (hn1 : n ≤ 1000000) (hop : (rd_T49 p (node : Int)).f0 = 4) (k0 k1 : Nat) (hk : 1 < (parts.getD node []).length) (h0 : rd (parts.getD node []) 0 = (k0 : Int)) (h1 : rd (parts.getD node []) 1 = (k1 : Int)) (g0 : k0 < table.length) (g1 : k1 < table.length) (v0 : mhv table k0 a b = false) (v1 : mhv table k1 a b = true) :
  Calls Try.prog 92 #[.pointer (some ⟨g, 0, none⟩), .int .i64 (node : Int), .int .i64 (a : Int), .int .i64 (b : Int)] w fun e w' => e = .returned (.bool (true)) ∧ Below w.heap.size w w' := by
 have hM' := hM
 obtain ⟨A0, c0, A1, c1, A2, c2, A3, c3, HG, H0, H1, H2, H3⟩ := hM'
 have hcz0 : w.cell? ⟨g, 0, none⟩ = some (.slice A0 p.length c0) := (blk_cell HG 0).trans rfl
 have hcz1 : w.cell? ⟨g, 1, none⟩ = some (.slice A1 parts.length c1) := (blk_cell HG 1).trans rfl
 have hcz2 : w.cell? ⟨g, 2, none⟩ = some (.slice A2 l.length c2) := (blk_cell HG 2).trans rfl
 clear HG H3
 obtain ⟨ad1, A4, c4, e1, hx1, hl1, hi1⟩ := at_sl H1 node hq
 generalize parts.getD node [] = ks at *
 obtain ⟨ad2, A5, c5, e2, hy1, hy2, hl2, hi2⟩ := at_T49 H0 (node : Int) (by omega) (by omega)
 cases e1
 cases e2
 rw [Int.toNat_natCast] at hy1 hy2
 rw [show (rd_T49 p (node : Int)).f0 = 4 from hop] at hy1
 have r1 : decide (node < p.length) = true := decide_eq_true hn
 have r2 : decide (node < parts.length) = true := decide_eq_true hq
 obtain ⟨ad3, e3, hk0⟩ := Kd.at_int hi1 0 (by omega) (by omega)
 cases e3
 rw [show ((0 : Int)).toNat = 0 from rfl, Addr.add_zero', show rd ks 0 = ((k0 : Nat) : Int) from h0] at hk0
 have s0 : decide ((0 : Int) < (ks.length : Int)) = true := decide_eq_true (by omega)
 have s0' : (0 : Nat) < ks.length := by omega
 obtain ⟨ad4, e4, hk1⟩ := Kd.at_int hi1 1 (by omega) (by omega)
 cases e4
 rw [show rd ks 1 = ((k1 : Nat) : Int) from h1] at hk1
 replace hk1 : w.cell? ⟨ad3.block, ad3.off + 1, none⟩ = some (.int .i64 ((k1 : Nat) : Int)) := hk1
 have s1 : decide ((1 : Int) < (ks.length : Int)) = true := decide_eq_true (by omega)
 have s1' : (1 : Nat) < ks.length := by omega
 have C0 := mhas.calls g p parts l table n k0 a b w hM hD g0 (by omega) hb
 rw [v0] at C0
 have C1 := mhas.calls g p parts l table n k1 a b w hM hD g1 (by omega) hb
 rw [v1] at C1
 clear hM hD H0 H1 H2 hi1 hi2 hl1 hl2 hop hk h0 h1 v0
 clear v1
 go_enter Try.func92, Try.ntmps92
 go_wp2_with (first | (go_at_call 64; (with_reducible refine C0.mono ?_); rintro e w' ⟨rfl, rfl⟩) | (go_at_call 64; (with_reducible refine C1.mono ?_); rintro e w' ⟨rfl, rfl⟩))
 go_ret
 exact ⟨rfl, be_⟩
theorem look_or2 (g : Nat) (p : List S49) (parts : List (List Int)) (l : List Int) (table : List (List (List Bool))) (n node a b : Nat) (w : World) (hM : MS w g p parts l table) (hD : Dims table n) (hl : l.length = n) (hn : node < p.length) (hq : node < parts.length) (hb : b ≤ n) (hab : a ≤ b) (hn1 : n ≤ 1000000) (hop : (rd_T49 p (node : Int)).f0 = 4) (k0 k1 : Nat) (hk : 1 < (parts.getD node []).length) (h0 : rd (parts.getD node []) 0 = (k0 : Int)) (h1 : rd (parts.getD node []) 1 = (k1 : Int)) (g0 : k0 < table.length) (g1 : k1 < table.length) (v0 : mhv table k0 a b = false) (v1 : mhv table k1 a b = false) :
  Calls Try.prog 92 #[.pointer (some ⟨g, 0, none⟩), .int .i64 (node : Int), .int .i64 (a : Int), .int .i64 (b : Int)] w fun e w' => e = .returned (.bool (false)) ∧ Below w.heap.size w w' := by
 have hM' := hM
 obtain ⟨A0, c0, A1, c1, A2, c2, A3, c3, HG, H0, H1, H2, H3⟩ := hM'
 have hcz0 : w.cell? ⟨g, 0, none⟩ = some (.slice A0 p.length c0) := (blk_cell HG 0).trans rfl
 have hcz1 : w.cell? ⟨g, 1, none⟩ = some (.slice A1 parts.length c1) := (blk_cell HG 1).trans rfl
 have hcz2 : w.cell? ⟨g, 2, none⟩ = some (.slice A2 l.length c2) := (blk_cell HG 2).trans rfl
 clear HG H3
 obtain ⟨ad1, A4, c4, e1, hx1, hl1, hi1⟩ := at_sl H1 node hq
 generalize parts.getD node [] = ks at *
 obtain ⟨ad2, A5, c5, e2, hy1, hy2, hl2, hi2⟩ := at_T49 H0 (node : Int) (by omega) (by omega)
 cases e1
 cases e2
 rw [Int.toNat_natCast] at hy1 hy2
 rw [show (rd_T49 p (node : Int)).f0 = 4 from hop] at hy1
 have r1 : decide (node < p.length) = true := decide_eq_true hn
 have r2 : decide (node < parts.length) = true := decide_eq_true hq
 obtain ⟨ad3, e3, hk0⟩ := Kd.at_int hi1 0 (by omega) (by omega)
 cases e3
 rw [show ((0 : Int)).toNat = 0 from rfl, Addr.add_zero', show rd ks 0 = ((k0 : Nat) : Int) from h0] at hk0
 have s0 : decide ((0 : Int) < (ks.length : Int)) = true := decide_eq_true (by omega)
 have s0' : (0 : Nat) < ks.length := by omega
 obtain ⟨ad4, e4, hk1⟩ := Kd.at_int hi1 1 (by omega) (by omega)
 cases e4
 rw [show rd ks 1 = ((k1 : Nat) : Int) from h1] at hk1
 replace hk1 : w.cell? ⟨ad3.block, ad3.off + 1, none⟩ = some (.int .i64 ((k1 : Nat) : Int)) := hk1
 have s1 : decide ((1 : Int) < (ks.length : Int)) = true := decide_eq_true (by omega)
 have s1' : (1 : Nat) < ks.length := by omega
 have C0 := mhas.calls g p parts l table n k0 a b w hM hD g0 (by omega) hb
 rw [v0] at C0
 have C1 := mhas.calls g p parts l table n k1 a b w hM hD g1 (by omega) hb
 rw [v1] at C1
 clear hM hD H0 H1 H2 hi1 hi2 hl1 hl2 hop hk h0 h1 v0
 clear v1
 go_enter Try.func92, Try.ntmps92
 go_wp2_with (first | (go_at_call 64; (with_reducible refine C0.mono ?_); rintro e w' ⟨rfl, rfl⟩) | (go_at_call 64; (with_reducible refine C1.mono ?_); rintro e w' ⟨rfl, rfl⟩))
 go_ret
 exact ⟨rfl, be_⟩
theorem look_and0 (g : Nat) (p : List S49) (parts : List (List Int)) (l : List Int) (table : List (List (List Bool))) (n node a b : Nat) (w : World) (hM : MS w g p parts l table) (hD : Dims table n) (hl : l.length = n) (hn : node < p.length) (hq : node < parts.length) (hb : b ≤ n) (hab : a ≤ b) (hn1 : n ≤ 1000000) (hop : (rd_T49 p (node : Int)).f0 = 5) (k0 k1 : Nat) (hk : 1 < (parts.getD node []).length) (h0 : rd (parts.getD node []) 0 = (k0 : Int)) (h1 : rd (parts.getD node []) 1 = (k1 : Int)) (g0 : k0 < table.length) (g1 : k1 < table.length) (v0 : mhv table k0 a b = false) :
  Calls Try.prog 92 #[.pointer (some ⟨g, 0, none⟩), .int .i64 (node : Int), .int .i64 (a : Int), .int .i64 (b : Int)] w fun e w' => e = .returned (.bool (false)) ∧ Below w.heap.size w w' := by
 have hM' := hM
 obtain ⟨A0, c0, A1, c1, A2, c2, A3, c3, HG, H0, H1, H2, H3⟩ := hM'
 have hcz0 : w.cell? ⟨g, 0, none⟩ = some (.slice A0 p.length c0) := (blk_cell HG 0).trans rfl
 have hcz1 : w.cell? ⟨g, 1, none⟩ = some (.slice A1 parts.length c1) := (blk_cell HG 1).trans rfl
 have hcz2 : w.cell? ⟨g, 2, none⟩ = some (.slice A2 l.length c2) := (blk_cell HG 2).trans rfl
 clear HG H3
 obtain ⟨ad1, A4, c4, e1, hx1, hl1, hi1⟩ := at_sl H1 node hq
 generalize parts.getD node [] = ks at *
 obtain ⟨ad2, A5, c5, e2, hy1, hy2, hl2, hi2⟩ := at_T49 H0 (node : Int) (by omega) (by omega)
 cases e1
 cases e2
 rw [Int.toNat_natCast] at hy1 hy2
 rw [show (rd_T49 p (node : Int)).f0 = 5 from hop] at hy1
 have r1 : decide (node < p.length) = true := decide_eq_true hn
 have r2 : decide (node < parts.length) = true := decide_eq_true hq
 obtain ⟨ad3, e3, hk0⟩ := Kd.at_int hi1 0 (by omega) (by omega)
 cases e3
 rw [show ((0 : Int)).toNat = 0 from rfl, Addr.add_zero', show rd ks 0 = ((k0 : Nat) : Int) from h0] at hk0
 have s0 : decide ((0 : Int) < (ks.length : Int)) = true := decide_eq_true (by omega)
 have s0' : (0 : Nat) < ks.length := by omega
 obtain ⟨ad4, e4, hk1⟩ := Kd.at_int hi1 1 (by omega) (by omega)
 cases e4
 rw [show rd ks 1 = ((k1 : Nat) : Int) from h1] at hk1
 replace hk1 : w.cell? ⟨ad3.block, ad3.off + 1, none⟩ = some (.int .i64 ((k1 : Nat) : Int)) := hk1
 have s1 : decide ((1 : Int) < (ks.length : Int)) = true := decide_eq_true (by omega)
 have s1' : (1 : Nat) < ks.length := by omega
 have C0 := mhas.calls g p parts l table n k0 a b w hM hD g0 (by omega) hb
 rw [v0] at C0
 clear hM hD H0 H1 H2 hi1 hi2 hl1 hl2 hop hk h0 h1 v0
 go_enter Try.func92, Try.ntmps92
 go_wp2_with (first | (go_at_call 64; (with_reducible refine C0.mono ?_); rintro e w' ⟨rfl, rfl⟩))
 go_ret
 exact ⟨rfl, be_⟩
theorem look_and1 (g : Nat) (p : List S49) (parts : List (List Int)) (l : List Int) (table : List (List (List Bool))) (n node a b : Nat) (w : World) (hM : MS w g p parts l table) (hD : Dims table n) (hl : l.length = n) (hn : node < p.length) (hq : node < parts.length) (hb : b ≤ n) (hab : a ≤ b) (hn1 : n ≤ 1000000) (hop : (rd_T49 p (node : Int)).f0 = 5) (k0 k1 : Nat) (hk : 1 < (parts.getD node []).length) (h0 : rd (parts.getD node []) 0 = (k0 : Int)) (h1 : rd (parts.getD node []) 1 = (k1 : Int)) (g0 : k0 < table.length) (g1 : k1 < table.length) (v0 : mhv table k0 a b = true) (v1 : mhv table k1 a b = true) :
  Calls Try.prog 92 #[.pointer (some ⟨g, 0, none⟩), .int .i64 (node : Int), .int .i64 (a : Int), .int .i64 (b : Int)] w fun e w' => e = .returned (.bool (true)) ∧ Below w.heap.size w w' := by
 have hM' := hM
 obtain ⟨A0, c0, A1, c1, A2, c2, A3, c3, HG, H0, H1, H2, H3⟩ := hM'
 have hcz0 : w.cell? ⟨g, 0, none⟩ = some (.slice A0 p.length c0) := (blk_cell HG 0).trans rfl
 have hcz1 : w.cell? ⟨g, 1, none⟩ = some (.slice A1 parts.length c1) := (blk_cell HG 1).trans rfl
 have hcz2 : w.cell? ⟨g, 2, none⟩ = some (.slice A2 l.length c2) := (blk_cell HG 2).trans rfl
 clear HG H3
 obtain ⟨ad1, A4, c4, e1, hx1, hl1, hi1⟩ := at_sl H1 node hq
 generalize parts.getD node [] = ks at *
 obtain ⟨ad2, A5, c5, e2, hy1, hy2, hl2, hi2⟩ := at_T49 H0 (node : Int) (by omega) (by omega)
 cases e1
 cases e2
 rw [Int.toNat_natCast] at hy1 hy2
 rw [show (rd_T49 p (node : Int)).f0 = 5 from hop] at hy1
 have r1 : decide (node < p.length) = true := decide_eq_true hn
 have r2 : decide (node < parts.length) = true := decide_eq_true hq
 obtain ⟨ad3, e3, hk0⟩ := Kd.at_int hi1 0 (by omega) (by omega)
 cases e3
 rw [show ((0 : Int)).toNat = 0 from rfl, Addr.add_zero', show rd ks 0 = ((k0 : Nat) : Int) from h0] at hk0
 have s0 : decide ((0 : Int) < (ks.length : Int)) = true := decide_eq_true (by omega)
 have s0' : (0 : Nat) < ks.length := by omega
 obtain ⟨ad4, e4, hk1⟩ := Kd.at_int hi1 1 (by omega) (by omega)
 cases e4
 rw [show rd ks 1 = ((k1 : Nat) : Int) from h1] at hk1
 replace hk1 : w.cell? ⟨ad3.block, ad3.off + 1, none⟩ = some (.int .i64 ((k1 : Nat) : Int)) := hk1
 have s1 : decide ((1 : Int) < (ks.length : Int)) = true := decide_eq_true (by omega)
 have s1' : (1 : Nat) < ks.length := by omega
 have C0 := mhas.calls g p parts l table n k0 a b w hM hD g0 (by omega) hb
 rw [v0] at C0
 have C1 := mhas.calls g p parts l table n k1 a b w hM hD g1 (by omega) hb
 rw [v1] at C1
 clear hM hD H0 H1 H2 hi1 hi2 hl1 hl2 hop hk h0 h1 v0
 clear v1
 go_enter Try.func92, Try.ntmps92
 go_wp2_with (first | (go_at_call 64; (with_reducible refine C0.mono ?_); rintro e w' ⟨rfl, rfl⟩) | (go_at_call 64; (with_reducible refine C1.mono ?_); rintro e w' ⟨rfl, rfl⟩))
 go_ret
 exact ⟨rfl, be_⟩
theorem look_and2 (g : Nat) (p : List S49) (parts : List (List Int)) (l : List Int) (table : List (List (List Bool))) (n node a b : Nat) (w : World) (hM : MS w g p parts l table) (hD : Dims table n) (hl : l.length = n) (hn : node < p.length) (hq : node < parts.length) (hb : b ≤ n) (hab : a ≤ b) (hn1 : n ≤ 1000000) (hop : (rd_T49 p (node : Int)).f0 = 5) (k0 k1 : Nat) (hk : 1 < (parts.getD node []).length) (h0 : rd (parts.getD node []) 0 = (k0 : Int)) (h1 : rd (parts.getD node []) 1 = (k1 : Int)) (g0 : k0 < table.length) (g1 : k1 < table.length) (v0 : mhv table k0 a b = true) (v1 : mhv table k1 a b = false) :
  Calls Try.prog 92 #[.pointer (some ⟨g, 0, none⟩), .int .i64 (node : Int), .int .i64 (a : Int), .int .i64 (b : Int)] w fun e w' => e = .returned (.bool (false)) ∧ Below w.heap.size w w' := by
 have hM' := hM
 obtain ⟨A0, c0, A1, c1, A2, c2, A3, c3, HG, H0, H1, H2, H3⟩ := hM'
 have hcz0 : w.cell? ⟨g, 0, none⟩ = some (.slice A0 p.length c0) := (blk_cell HG 0).trans rfl
 have hcz1 : w.cell? ⟨g, 1, none⟩ = some (.slice A1 parts.length c1) := (blk_cell HG 1).trans rfl
 have hcz2 : w.cell? ⟨g, 2, none⟩ = some (.slice A2 l.length c2) := (blk_cell HG 2).trans rfl
 clear HG H3
 obtain ⟨ad1, A4, c4, e1, hx1, hl1, hi1⟩ := at_sl H1 node hq
 generalize parts.getD node [] = ks at *
 obtain ⟨ad2, A5, c5, e2, hy1, hy2, hl2, hi2⟩ := at_T49 H0 (node : Int) (by omega) (by omega)
 cases e1
 cases e2
 rw [Int.toNat_natCast] at hy1 hy2
 rw [show (rd_T49 p (node : Int)).f0 = 5 from hop] at hy1
 have r1 : decide (node < p.length) = true := decide_eq_true hn
 have r2 : decide (node < parts.length) = true := decide_eq_true hq
 obtain ⟨ad3, e3, hk0⟩ := Kd.at_int hi1 0 (by omega) (by omega)
 cases e3
 rw [show ((0 : Int)).toNat = 0 from rfl, Addr.add_zero', show rd ks 0 = ((k0 : Nat) : Int) from h0] at hk0
 have s0 : decide ((0 : Int) < (ks.length : Int)) = true := decide_eq_true (by omega)
 have s0' : (0 : Nat) < ks.length := by omega
 obtain ⟨ad4, e4, hk1⟩ := Kd.at_int hi1 1 (by omega) (by omega)
 cases e4
 rw [show rd ks 1 = ((k1 : Nat) : Int) from h1] at hk1
 replace hk1 : w.cell? ⟨ad3.block, ad3.off + 1, none⟩ = some (.int .i64 ((k1 : Nat) : Int)) := hk1
 have s1 : decide ((1 : Int) < (ks.length : Int)) = true := decide_eq_true (by omega)
 have s1' : (1 : Nat) < ks.length := by omega
 have C0 := mhas.calls g p parts l table n k0 a b w hM hD g0 (by omega) hb
 rw [v0] at C0
 have C1 := mhas.calls g p parts l table n k1 a b w hM hD g1 (by omega) hb
 rw [v1] at C1
 clear hM hD H0 H1 H2 hi1 hi2 hl1 hl2 hop hk h0 h1 v0
 clear v1
 go_enter Try.func92, Try.ntmps92
 go_wp2_with (first | (go_at_call 64; (with_reducible refine C0.mono ?_); rintro e w' ⟨rfl, rfl⟩) | (go_at_call 64; (with_reducible refine C1.mono ?_); rintro e w' ⟨rfl, rfl⟩))
 go_ret
 exact ⟨rfl, be_⟩
theorem look_not (g : Nat) (p : List S49) (parts : List (List Int)) (l : List Int) (table : List (List (List Bool))) (n node a b : Nat) (w : World) (hM : MS w g p parts l table) (hD : Dims table n) (hl : l.length = n) (hn : node < p.length) (hq : node < parts.length) (hb : b ≤ n) (hab : a ≤ b) (hn1 : n ≤ 1000000) (hop : (rd_T49 p (node : Int)).f0 = 7) (k0 : Nat) (hk : 0 < (parts.getD node []).length) (h0 : rd (parts.getD node []) 0 = (k0 : Int)) (g0 : k0 < table.length) :
  Calls Try.prog 92 #[.pointer (some ⟨g, 0, none⟩), .int .i64 (node : Int), .int .i64 (a : Int), .int .i64 (b : Int)] w fun e w' => e = .returned (.bool (!mhv table k0 a b)) ∧ Below w.heap.size w w' := by
 have hM' := hM
 obtain ⟨A0, c0, A1, c1, A2, c2, A3, c3, HG, H0, H1, H2, H3⟩ := hM'
 have hcz0 : w.cell? ⟨g, 0, none⟩ = some (.slice A0 p.length c0) := (blk_cell HG 0).trans rfl
 have hcz1 : w.cell? ⟨g, 1, none⟩ = some (.slice A1 parts.length c1) := (blk_cell HG 1).trans rfl
 have hcz2 : w.cell? ⟨g, 2, none⟩ = some (.slice A2 l.length c2) := (blk_cell HG 2).trans rfl
 clear HG H3
 obtain ⟨ad1, A4, c4, e1, hx1, hl1, hi1⟩ := at_sl H1 node hq
 generalize parts.getD node [] = ks at *
 obtain ⟨ad2, A5, c5, e2, hy1, hy2, hl2, hi2⟩ := at_T49 H0 (node : Int) (by omega) (by omega)
 cases e1
 cases e2
 rw [Int.toNat_natCast] at hy1 hy2
 rw [show (rd_T49 p (node : Int)).f0 = 7 from hop] at hy1
 have r1 : decide (node < p.length) = true := decide_eq_true hn
 have r2 : decide (node < parts.length) = true := decide_eq_true hq
 obtain ⟨ad3, e3, hk0⟩ := Kd.at_int hi1 0 (by omega) (by omega)
 cases e3
 rw [show ((0 : Int)).toNat = 0 from rfl, Addr.add_zero', show rd ks 0 = ((k0 : Nat) : Int) from h0] at hk0
 have s0 : decide ((0 : Int) < (ks.length : Int)) = true := decide_eq_true (by omega)
 have s0' : (0 : Nat) < ks.length := by omega
 have C0 := mhas.calls g p parts l table n k0 a b w hM hD g0 (by omega) hb
 generalize mhv table k0 a b = v at C0
 clear hM hD H0 H1 H2 hi1 hi2 hl1 hl2 hop hk h0
 go_enter Try.func92, Try.ntmps92
 go_wp2_with (go_at_call 64; (with_reducible refine C0.mono ?_); rintro e w' ⟨rfl, rfl⟩)
 go_ret
 exact ⟨rfl, be_⟩
theorem look_set_yes (g : Nat) (p : List S49) (parts : List (List Int)) (l : List Int) (table : List (List (List Bool))) (n node a b : Nat) (w : World) (hM : MS w g p parts l table) (hD : Dims table n) (hl : l.length = n) (hn : node < p.length) (hq : node < parts.length) (hb : b ≤ n) (hab : a ≤ b) (hn1 : n ≤ 1000000) (hop : (rd_T49 p (node : Int)).f0 = 2) (hw : b = a + 1) (k : Nat) (r : Bool) (hS : impl_inSet.f k (rd_T49 p (node : Int)).f1 (rd l (a : Int)) = some r) :
  Calls Try.prog 92 #[.pointer (some ⟨g, 0, none⟩), .int .i64 (node : Int), .int .i64 (a : Int), .int .i64 (b : Int)] w fun e w' => e = .returned (.bool (r)) ∧ Below w.heap.size w w' := by
 have hM' := hM
 obtain ⟨A0, c0, A1, c1, A2, c2, A3, c3, HG, H0, H1, H2, H3⟩ := hM'
 have hcz0 : w.cell? ⟨g, 0, none⟩ = some (.slice A0 p.length c0) := (blk_cell HG 0).trans rfl
 have hcz1 : w.cell? ⟨g, 1, none⟩ = some (.slice A1 parts.length c1) := (blk_cell HG 1).trans rfl
 have hcz2 : w.cell? ⟨g, 2, none⟩ = some (.slice A2 l.length c2) := (blk_cell HG 2).trans rfl
 clear HG H3
 obtain ⟨ad1, A4, c4, e1, hx1, hl1, hi1⟩ := at_sl H1 node hq
 generalize parts.getD node [] = ks at *
 obtain ⟨ad2, A5, c5, e2, hy1, hy2, hl2, hi2⟩ := at_T49 H0 (node : Int) (by omega) (by omega)
 cases e1
 cases e2
 rw [Int.toNat_natCast] at hy1 hy2
 rw [show (rd_T49 p (node : Int)).f0 = 2 from hop] at hy1
 have r1 : decide (node < p.length) = true := decide_eq_true hn
 have r2 : decide (node < parts.length) = true := decide_eq_true hq
 subst hl
 obtain ⟨ad5, e5, hz⟩ := Kd.at_int H2 (a : Int) (by omega) (by omega)
 cases e5
 rw [Int.toNat_natCast] at hz
 have C0 := Aside0.mk (fun (W : World) (hb : Below w.heap.size w W) => (impl_inSet.calls k A5 c5 (rd_T49 p (node : Int)).f1 (rd l (a : Int)) r W (Kd.C_below hi2 hb) hl2 hS).mono (fun (e : Ending) (w' : World) ⟨he, h⟩ => (⟨he, hb.trans (h.mono hb.size)⟩ : e = Ending.returned (.bool r) ∧ Below w.heap.size w w')))
 have t1 : IntKind.i64.wrap ((a : Int) + 1) = (a : Int) + 1 := by rw [IntKind.wrap_i64]; omega
 have t2 : ((b : Int) == (a : Int) + 1) = true := beq_iff_eq.mpr (by omega)
 have t3 : decide (a < l.length) = true := decide_eq_true (by omega)
 have t4 : a < l.length := by omega
 have t6 : (0 : Int) ≤ (a : Int) := by omega
 have t7 : (a : Int) < (l.length : Int) := by omega
 have t8 : (a : Int) ≤ (l.length : Int) := by omega
 have HX := Aside0.mk (fun (W : World) (hb : Below w.heap.size w W) => (⟨pw_cell_below hb hcz0, pw_cell_below hb hcz2, pw_cell_below hb hy2, pw_cell_below hb hz⟩ : W.cell? ⟨g, 0, none⟩ = some (.slice (some ad2) p.length c0) ∧ W.cell? ⟨g, 2, none⟩ = some (.slice (some ad5) l.length c2) ∧ W.cell? ⟨(ad2.add (node * 2)).block, (ad2.add (node * 2)).off + 1, none⟩ = some (.slice A5 (rd_T49 p (node : Int)).f1.length c5) ∧ W.cell? (ad5.add a) = some (.int .i64 (rd l (a : Int)))))
 generalize (rd_T49 p (node : Int)).f1 = st at *
 generalize rd l (a : Int) = x at *
 clear hS hw
 clear hM hD H0 H1 H2 hi1 hi2 hl1 hl2 hop
 go_enter Try.func92, Try.ntmps92
 go_wp2
 go_region_held3 (fun w' => w'.cell? ⟨g, 0, none⟩ = some (.slice (some ad2) p.length c0) ∧ w'.cell? ⟨g, 2, none⟩ = some (.slice (some ad5) l.length c2) ∧ w'.cell? ⟨(ad2.add (node * 2)).block, (ad2.add (node * 2)).off + 1, none⟩ = some (.slice A5 st.length c5) ∧ w'.cell? (ad5.add a) = some (.int .i64 x)) (first | (go_keep; done) | exact HX.out _ (by repeat (first | (with_reducible first | exact Aside0.out (by assumption) | exact Below.refl _ _ | apply pw_below_drewN | apply below_drew1 | apply below_alloc)))) ((go_at_call 103; (with_reducible refine (C0.out _ be_).mono ?_); rintro e w' ⟨rfl, hb⟩; have HB := Aside0.mk hb; clear hb))
 go_wp2
 go_ret
 exact ⟨rfl, by repeat (first | (with_reducible first | exact Aside0.out (by assumption) | exact Below.refl _ _ | apply pw_below_drewN | apply below_drew1 | apply below_alloc))⟩
theorem look_star_eq (g : Nat) (p : List S49) (parts : List (List Int)) (l : List Int) (table : List (List (List Bool))) (n node a b : Nat) (w : World) (hM : MS w g p parts l table) (hD : Dims table n) (hl : l.length = n) (hn : node < p.length) (hq : node < parts.length) (hb : b ≤ n) (hab : a ≤ b) (hn1 : n ≤ 1000000) (hop : (rd_T49 p (node : Int)).f0 = 6) (hw : a = b) :
  Calls Try.prog 92 #[.pointer (some ⟨g, 0, none⟩), .int .i64 (node : Int), .int .i64 (a : Int), .int .i64 (b : Int)] w fun e w' => e = .returned (.bool (true)) ∧ Below w.heap.size w w' := by
 have hM' := hM
 obtain ⟨A0, c0, A1, c1, A2, c2, A3, c3, HG, H0, H1, H2, H3⟩ := hM'
 have hcz0 : w.cell? ⟨g, 0, none⟩ = some (.slice A0 p.length c0) := (blk_cell HG 0).trans rfl
 have hcz1 : w.cell? ⟨g, 1, none⟩ = some (.slice A1 parts.length c1) := (blk_cell HG 1).trans rfl
 have hcz2 : w.cell? ⟨g, 2, none⟩ = some (.slice A2 l.length c2) := (blk_cell HG 2).trans rfl
 clear HG H3
 obtain ⟨ad1, A4, c4, e1, hx1, hl1, hi1⟩ := at_sl H1 node hq
 generalize parts.getD node [] = ks at *
 obtain ⟨ad2, A5, c5, e2, hy1, hy2, hl2, hi2⟩ := at_T49 H0 (node : Int) (by omega) (by omega)
 cases e1
 cases e2
 rw [Int.toNat_natCast] at hy1 hy2
 rw [show (rd_T49 p (node : Int)).f0 = 6 from hop] at hy1
 have r1 : decide (node < p.length) = true := decide_eq_true hn
 have r2 : decide (node < parts.length) = true := decide_eq_true hq
 have t2 : ((a : Int) == (b : Int)) = true := beq_iff_eq.mpr (by omega)
 clear hw
 clear hM hD H0 H1 H2 hi1 hi2 hl1 hl2 hop
 go_enter Try.func92, Try.ntmps92
 go_wp2
 go_ret
 exact ⟨rfl, be_⟩
theorem look_star (g : Nat) (p : List S49) (parts : List (List Int)) (l : List Int) (table : List (List (List Bool))) (n node a b : Nat) (w : World) (hM : MS w g p parts l table) (hD : Dims table n) (hl : l.length = n) (hn : node < p.length) (hq : node < parts.length) (hb : b ≤ n) (hab : a ≤ b) (hn1 : n ≤ 1000000) (hop : (rd_T49 p (node : Int)).f0 = 6) (hw : ¬ a = b) (k0 : Nat) (hk : 0 < (parts.getD node []).length) (h0 : rd (parts.getD node []) 0 = (k0 : Int)) (g0 : k0 < table.length) (gn : node < table.length) :
  Calls Try.prog 92 #[.pointer (some ⟨g, 0, none⟩), .int .i64 (node : Int), .int .i64 (a : Int), .int .i64 (b : Int)] w fun e w' => e = .returned (.bool (anyFT (a + 1) b (fun m => mhv table k0 a m && mhv table node m b))) ∧ Below w.heap.size w w' := by
 have hM' := hM
 obtain ⟨A0, c0, A1, c1, A2, c2, A3, c3, HG, H0, H1, H2, H3⟩ := hM'
 have hcz0 : w.cell? ⟨g, 0, none⟩ = some (.slice A0 p.length c0) := (blk_cell HG 0).trans rfl
 have hcz1 : w.cell? ⟨g, 1, none⟩ = some (.slice A1 parts.length c1) := (blk_cell HG 1).trans rfl
 have hcz2 : w.cell? ⟨g, 2, none⟩ = some (.slice A2 l.length c2) := (blk_cell HG 2).trans rfl
 clear HG H3
 obtain ⟨ad1, A4, c4, e1, hx1, hl1, hi1⟩ := at_sl H1 node hq
 generalize parts.getD node [] = ks at *
 obtain ⟨ad2, A5, c5, e2, hy1, hy2, hl2, hi2⟩ := at_T49 H0 (node : Int) (by omega) (by omega)
 cases e1
 cases e2
 rw [Int.toNat_natCast] at hy1 hy2
 rw [show (rd_T49 p (node : Int)).f0 = 6 from hop] at hy1
 have r1 : decide (node < p.length) = true := decide_eq_true hn
 have r2 : decide (node < parts.length) = true := decide_eq_true hq
 obtain ⟨ad3, e3, hk0⟩ := Kd.at_int hi1 0 (by omega) (by omega)
 cases e3
 rw [show ((0 : Int)).toNat = 0 from rfl, Addr.add_zero', show rd ks 0 = ((k0 : Nat) : Int) from h0] at hk0
 have s0 : decide ((0 : Int) < (ks.length : Int)) = true := decide_eq_true (by omega)
 have s0' : (0 : Nat) < ks.length := by omega
 have t2 : ((a : Int) == (b : Int)) = false := beq_eq_false_iff_ne.mpr (by omega)
 clear hk h0 hw
 have C0 := Aside0.mk (fun (m : Nat) (hm : m ≤ n) => mhas.calls g p parts l table n k0 a m w hM hD g0 (by omega) hm)
 have C1 := Aside0.mk (fun (m : Nat) (hm : m ≤ n) => mhas.calls g p parts l table n node m b w hM hD gn hm hb)
 have HV := Aside0.mk (fun (r : Bool) (h : anyFT (a + 1) b (fun m => mhv table k0 a m && mhv table node m b) = r) => h)
 obtain ⟨V, hV⟩ : ∃ V, anyFT (a + 1) b (fun m => mhv table k0 a m && mhv table node m b) = V := ⟨_, rfl⟩
 rw [hV]
 have HV := Aside0.mk hV
 clear hV
 clear hM hD H0 H1 H2 hi1 hi2 hl1 hl2 hop
 go_enter Try.func92, Try.ntmps92
 go_wp2
 go_loop [10] (fun v => ∃ m : Nat, (a + 1) ≤ m ∧ m ≤ b + 1 ∧ v = .int .i64 m ∧ Aside0 (∀ i, (a + 1) ≤ i → i < m → (fun m => mhv table k0 a m && mhv table node m b) i = false)) (fun v => b + 1 - (intOf v).toNat)
 case atStart => exact ⟨(a + 1), Nat.le_refl _, by omega, by first | rfl | go_num | (simp; done), ⟨fun i h1 h2 => by omega⟩⟩
 case round =>
  obtain ⟨m, hm1, hm2, rfl, HF⟩ := hrel
  by_cases hc : m ≤ b
  ·have q1 : decide (m ≤ b) = true := decide_eq_true hc
   have D0 := Aside0.mk (C0.out m (by omega))
   have D1 := Aside0.mk (C1.out m (by omega))
   cases hv0 : mhv table k0 a m with
   | false =>
    rw [hv0] at D0
    have HV0 := Aside0.mk hv0
    clear hv0
    go_wp2_with (first | (go_at_call 64; (with_reducible refine D0.out.mono ?_); rintro e w' ⟨rfl, rfl⟩))
    go_round
    case rel => exact ⟨m + 1, by omega, by omega, by go_num, ⟨fun i h1 h2 => by
     by_cases e : i = m
     ·subst e; simp only [HV0.out, Bool.false_and]
     ·exact HF.out i h1 (by omega)⟩⟩
    case measure => simp [intOf]; omega
   | true =>
    rw [hv0] at D0
    have HV0 := Aside0.mk hv0
    clear hv0
    cases hv1 : mhv table node m b with
    | false =>
     rw [hv1] at D1
     have HV1 := Aside0.mk hv1
     clear hv1
     go_wp2_with (first | (go_at_call 64; (with_reducible refine D0.out.mono ?_); rintro e w' ⟨rfl, rfl⟩) | (go_at_call 64; (with_reducible refine D1.out.mono ?_); rintro e w' ⟨rfl, rfl⟩))
     go_round
     case rel => exact ⟨m + 1, by omega, by omega, by go_num, ⟨fun i h1 h2 => by
      by_cases e : i = m
      ·subst e; simp only [HV1.out, Bool.and_false]
      ·exact HF.out i h1 (by omega)⟩⟩
     case measure => simp [intOf]; omega
    | true =>
     rw [hv1] at D1
     have HV1 := Aside0.mk hv1
     clear hv1
     have hVt : true = V := by rw [← HV.out]; exact (anyFT_true m hm1 hc (by simp only [HV0.out, HV1.out, Bool.and_self])).symm
     subst hVt
     go_wp2_with (first | (go_at_call 64; (with_reducible refine D0.out.mono ?_); rintro e w' ⟨rfl, rfl⟩) | (go_at_call 64; (with_reducible refine D1.out.mono ?_); rintro e w' ⟨rfl, rfl⟩))
     go_ret
     exact ⟨rfl, be_⟩
  ·have q1 : decide (m ≤ b) = false := decide_eq_false hc
   have hVf : false = V := by rw [← HV.out]; exact (anyFT_false fun i h1 h2 => HF.out i h1 (by omega)).symm
   subst hVf
   go_wp2
   go_ret
   exact ⟨rfl, be_⟩
theorem look_cat (g : Nat) (p : List S49) (parts : List (List Int)) (l : List Int) (table : List (List (List Bool))) (n node a b : Nat) (w : World) (hM : MS w g p parts l table) (hD : Dims table n) (hl : l.length = n) (hn : node < p.length) (hq : node < parts.length) (hb : b ≤ n) (hab : a ≤ b) (hn1 : n ≤ 1000000) (hop : (rd_T49 p (node : Int)).f0 = 3) (k0 k1 : Nat) (hk : 1 < (parts.getD node []).length) (h0 : rd (parts.getD node []) 0 = (k0 : Int)) (h1 : rd (parts.getD node []) 1 = (k1 : Int)) (g0 : k0 < table.length) (g1 : k1 < table.length) :
  Calls Try.prog 92 #[.pointer (some ⟨g, 0, none⟩), .int .i64 (node : Int), .int .i64 (a : Int), .int .i64 (b : Int)] w fun e w' => e = .returned (.bool (anyFT a b (fun m => mhv table k0 a m && mhv table k1 m b))) ∧ Below w.heap.size w w' := by
 have hM' := hM
 obtain ⟨A0, c0, A1, c1, A2, c2, A3, c3, HG, H0, H1, H2, H3⟩ := hM'
 have hcz0 : w.cell? ⟨g, 0, none⟩ = some (.slice A0 p.length c0) := (blk_cell HG 0).trans rfl
 have hcz1 : w.cell? ⟨g, 1, none⟩ = some (.slice A1 parts.length c1) := (blk_cell HG 1).trans rfl
 have hcz2 : w.cell? ⟨g, 2, none⟩ = some (.slice A2 l.length c2) := (blk_cell HG 2).trans rfl
 clear HG H3
 obtain ⟨ad1, A4, c4, e1, hx1, hl1, hi1⟩ := at_sl H1 node hq
 generalize parts.getD node [] = ks at *
 obtain ⟨ad2, A5, c5, e2, hy1, hy2, hl2, hi2⟩ := at_T49 H0 (node : Int) (by omega) (by omega)
 cases e1
 cases e2
 rw [Int.toNat_natCast] at hy1 hy2
 rw [show (rd_T49 p (node : Int)).f0 = 3 from hop] at hy1
 have r1 : decide (node < p.length) = true := decide_eq_true hn
 have r2 : decide (node < parts.length) = true := decide_eq_true hq
 obtain ⟨ad3, e3, hk0⟩ := Kd.at_int hi1 0 (by omega) (by omega)
 cases e3
 rw [show ((0 : Int)).toNat = 0 from rfl, Addr.add_zero', show rd ks 0 = ((k0 : Nat) : Int) from h0] at hk0
 have s0 : decide ((0 : Int) < (ks.length : Int)) = true := decide_eq_true (by omega)
 have s0' : (0 : Nat) < ks.length := by omega
 obtain ⟨ad4, e4, hk1⟩ := Kd.at_int hi1 1 (by omega) (by omega)
 cases e4
 rw [show rd ks 1 = ((k1 : Nat) : Int) from h1] at hk1
 replace hk1 : w.cell? ⟨ad3.block, ad3.off + 1, none⟩ = some (.int .i64 ((k1 : Nat) : Int)) := hk1
 have s1 : decide ((1 : Int) < (ks.length : Int)) = true := decide_eq_true (by omega)
 have s1' : (1 : Nat) < ks.length := by omega
 clear hk h0 h1
 have C0 := Aside0.mk (fun (m : Nat) (hm : m ≤ n) => mhas.calls g p parts l table n k0 a m w hM hD g0 (by omega) hm)
 have C1 := Aside0.mk (fun (m : Nat) (hm : m ≤ n) => mhas.calls g p parts l table n k1 m b w hM hD g1 hm hb)
 have HV := Aside0.mk (fun (r : Bool) (h : anyFT a b (fun m => mhv table k0 a m && mhv table k1 m b) = r) => h)
 obtain ⟨V, hV⟩ : ∃ V, anyFT a b (fun m => mhv table k0 a m && mhv table k1 m b) = V := ⟨_, rfl⟩
 rw [hV]
 have HV := Aside0.mk hV
 clear hV
 clear hM hD H0 H1 H2 hi1 hi2 hl1 hl2 hop
 go_enter Try.func92, Try.ntmps92
 go_wp2
 go_loop [11] (fun v => ∃ m : Nat, a ≤ m ∧ m ≤ b + 1 ∧ v = .int .i64 m ∧ Aside0 (∀ i, a ≤ i → i < m → (fun m => mhv table k0 a m && mhv table k1 m b) i = false)) (fun v => b + 1 - (intOf v).toNat)
 case atStart => exact ⟨a, Nat.le_refl _, by omega, by first | rfl | go_num | (simp; done), ⟨fun i h1 h2 => by omega⟩⟩
 case round =>
  obtain ⟨m, hm1, hm2, rfl, HF⟩ := hrel
  by_cases hc : m ≤ b
  ·have q1 : decide (m ≤ b) = true := decide_eq_true hc
   have D0 := Aside0.mk (C0.out m (by omega))
   have D1 := Aside0.mk (C1.out m (by omega))
   cases hv0 : mhv table k0 a m with
   | false =>
    rw [hv0] at D0
    have HV0 := Aside0.mk hv0
    clear hv0
    go_wp2_with (first | (go_at_call 64; (with_reducible refine D0.out.mono ?_); rintro e w' ⟨rfl, rfl⟩))
    go_round
    case rel => exact ⟨m + 1, by omega, by omega, by go_num, ⟨fun i h1 h2 => by
     by_cases e : i = m
     ·subst e; simp only [HV0.out, Bool.false_and]
     ·exact HF.out i h1 (by omega)⟩⟩
    case measure => simp [intOf]; omega
   | true =>
    rw [hv0] at D0
    have HV0 := Aside0.mk hv0
    clear hv0
    cases hv1 : mhv table k1 m b with
    | false =>
     rw [hv1] at D1
     have HV1 := Aside0.mk hv1
     clear hv1
     go_wp2_with (first | (go_at_call 64; (with_reducible refine D0.out.mono ?_); rintro e w' ⟨rfl, rfl⟩) | (go_at_call 64; (with_reducible refine D1.out.mono ?_); rintro e w' ⟨rfl, rfl⟩))
     go_round
     case rel => exact ⟨m + 1, by omega, by omega, by go_num, ⟨fun i h1 h2 => by
      by_cases e : i = m
      ·subst e; simp only [HV1.out, Bool.and_false]
      ·exact HF.out i h1 (by omega)⟩⟩
     case measure => simp [intOf]; omega
    | true =>
     rw [hv1] at D1
     have HV1 := Aside0.mk hv1
     clear hv1
     have hVt : true = V := by rw [← HV.out]; exact (anyFT_true m hm1 hc (by simp only [HV0.out, HV1.out, Bool.and_self])).symm
     subst hVt
     go_wp2_with (first | (go_at_call 64; (with_reducible refine D0.out.mono ?_); rintro e w' ⟨rfl, rfl⟩) | (go_at_call 64; (with_reducible refine D1.out.mono ?_); rintro e w' ⟨rfl, rfl⟩))
     go_ret
     exact ⟨rfl, be_⟩
  ·have q1 : decide (m ≤ b) = false := decide_eq_false hc
   have hVf : false = V := by rw [← HV.out]; exact (anyFT_false fun i h1 h2 => HF.out i h1 (by omega)).symm
   subst hVf
   go_wp2
   go_ret
   exact ⟨rfl, be_⟩
/-- A kid's place. -/
def kd (parts : List (List Int)) (node i : Nat) : Nat := (rd (parts.getD node []) (i : Int)).toNat
/-- What a node tells of a part of the list, where V tells it of what comes ahead. -/
def lookF (I : List Int → Int → Bool) (p : List S49) (parts : List (List Int)) (l : List Int) (V : Nat → Nat → Nat → Bool) (node a b : Nat) : Bool :=
 if (rd_T49 p (node : Int)).f0 = 1 then decide (a = b)
 else if (rd_T49 p (node : Int)).f0 = 2 then (if b = a + 1 then I (rd_T49 p (node : Int)).f1 (rd l (a : Int)) else false)
 else if (rd_T49 p (node : Int)).f0 = 4 then (V (kd parts node 0) a b || V (kd parts node 1) a b)
 else if (rd_T49 p (node : Int)).f0 = 5 then (V (kd parts node 0) a b && V (kd parts node 1) a b)
 else if (rd_T49 p (node : Int)).f0 = 7 then !V (kd parts node 0) a b
 else if (rd_T49 p (node : Int)).f0 = 6 then (if a = b then true else anyFT (a + 1) b fun m => V (kd parts node 0) a m && V node m b)
 else anyFT a b fun m => V (kd parts node 0) a m && V (kd parts node 1) m b
/-- The kids of a node stand as they must. -/
def KidsOk (p : List S49) (parts : List (List Int)) (node : Nat) : Prop :=
 ((rd_T49 p (node : Int)).f0 = 1 ∨ (rd_T49 p (node : Int)).f0 = 2 ∨ ((rd_T49 p (node : Int)).f0 = 6 ∨ (rd_T49 p (node : Int)).f0 = 7) ∧ (parts.getD node []).length = 1 ∨ ((rd_T49 p (node : Int)).f0 = 3 ∨ (rd_T49 p (node : Int)).f0 = 4 ∨ (rd_T49 p (node : Int)).f0 = 5) ∧ (parts.getD node []).length = 2) ∧ ∀ x ∈ parts.getD node [], 0 ≤ x ∧ x < (node : Int)
theorem kid_at {parts : List (List Int)} {node i : Nat} (h : ∀ x ∈ parts.getD node [], 0 ≤ x ∧ x < (node : Int)) (hi : i < (parts.getD node []).length) : rd (parts.getD node []) (i : Int) = ((kd parts node i : Nat) : Int) ∧ kd parts node i < node := by
 have hm : rd (parts.getD node []) (i : Int) ∈ parts.getD node [] := by
  have e : rd (parts.getD node []) (i : Int) = (parts.getD node [])[i] := by show (parts.getD node []).getD ((i : Int)).toNat 0 = _; rw [Int.toNat_natCast, List.getD_eq_getElem?_getD, List.getElem?_eq_getElem hi]; rfl
  rw [e]; exact List.getElem_mem _
 have := h _ hm
 unfold kd
 omega
theorem anyFT_congr {lo hi : Nat} {f g : Nat → Bool} (h : ∀ m, lo ≤ m → m ≤ hi → f m = g m) : anyFT lo hi f = anyFT lo hi g := by
 unfold anyFT
 rw [Bool.eq_iff_iff, List.any_eq_true, List.any_eq_true]
 constructor
 ·rintro ⟨m, hm, hb⟩
  rw [Bool.and_eq_true, decide_eq_true_iff] at hb
  exact ⟨m, hm, by rw [decide_eq_true hb.1, ← h m hb.1 (by have := List.mem_range.1 hm; omega), hb.2]; rfl⟩
 ·rintro ⟨m, hm, hb⟩
  rw [Bool.and_eq_true, decide_eq_true_iff] at hb
  exact ⟨m, hm, by rw [decide_eq_true hb.1, h m hb.1 (by have := List.mem_range.1 hm; omega), hb.2]; rfl⟩
theorem look_any (I : List Int → Int → Bool) (V : Nat → Nat → Nat → Bool) (g : Nat) (p : List S49) (parts : List (List Int)) (l : List Int) (table : List (List (List Bool))) (n node a b : Nat) (w : World) (hM : MS w g p parts l table) (hD : Dims table n) (hl : l.length = n) (hn : node < p.length) (hq : node < parts.length) (hb : b ≤ n) (hab : a ≤ b) (hn1 : n ≤ 1000000) (gn : node < table.length) (hK : KidsOk p parts node) (hI : (rd_T49 p (node : Int)).f0 = 2 → ∀ x, ∃ k, impl_inSet.f k (rd_T49 p (node : Int)).f1 x = some (I (rd_T49 p (node : Int)).f1 x))
  (hV0 : ∀ k i j, k < node → i ≤ j → j ≤ n → mhv table k i j = V k i j) (hV1 : ∀ i j, a < i → i ≤ j → j ≤ n → mhv table node i j = V node i j) :
  Calls Try.prog 92 #[.pointer (some ⟨g, 0, none⟩), .int .i64 (node : Int), .int .i64 (a : Int), .int .i64 (b : Int)] w fun e w' => e = .returned (.bool (lookF I p parts l V node a b)) ∧ Below w.heap.size w w' := by
 obtain ⟨hop, hkk⟩ := hK
 unfold lookF
 rcases hop with h | h | ⟨h, hk⟩ | ⟨h, hk⟩
 ·rw [if_pos h]
  exact look_nil g p parts l table n node a b w hM hD hl hn hq hb hab hn1 h
 ·rw [if_neg (by omega), if_pos h]
  by_cases e : b = a + 1
  ·rw [if_pos e]
   obtain ⟨k, hk⟩ := hI h (rd l (a : Int))
   exact look_set_yes g p parts l table n node a b w hM hD hl hn hq hb hab hn1 h e k _ hk
  ·rw [if_neg e]
   exact look_set_no g p parts l table n node a b w hM hD hl hn hq hb hab hn1 h e
 ·obtain ⟨k0, k0l⟩ := kid_at (i := 0) hkk (by omega)
  rcases h with h | h
  ·rw [if_neg (by omega), if_neg (by omega), if_neg (by omega), if_neg (by omega), if_neg (by omega), if_pos h]
   by_cases e : a = b
   ·rw [if_pos e]
    exact look_star_eq g p parts l table n node a b w hM hD hl hn hq hb hab hn1 h e
   ·rw [if_neg e, ← anyFT_congr (f := fun m => mhv table (kd parts node 0) a m && mhv table node m b) (fun m h1 h2 => by rw [hV0 _ a m k0l (by omega) (by omega), hV1 m b (by omega) h2 hb])]
    exact look_star g p parts l table n node a b w hM hD hl hn hq hb hab hn1 h e _ (by omega) k0 (by omega) gn
  ·rw [if_neg (by omega), if_neg (by omega), if_neg (by omega), if_neg (by omega), if_pos h, ← hV0 _ a b k0l hab hb]
   exact look_not g p parts l table n node a b w hM hD hl hn hq hb hab hn1 h _ (by omega) k0 (by omega)
 ·obtain ⟨k0, k0l⟩ := kid_at (i := 0) hkk (by omega)
  obtain ⟨k1, k1l⟩ := kid_at (i := 1) hkk (by omega)
  rcases h with h | h | h
  ·rw [if_neg (by omega), if_neg (by omega), if_neg (by omega), if_neg (by omega), if_neg (by omega), if_neg (by omega), ← anyFT_congr (f := fun m => mhv table (kd parts node 0) a m && mhv table (kd parts node 1) m b) (fun m h1 h2 => by rw [hV0 _ a m k0l (by omega) (by omega), hV0 _ m b k1l h2 hb])]
   exact look_cat g p parts l table n node a b w hM hD hl hn hq hb hab hn1 h _ _ (by omega) k0 k1 (by omega) (by omega)
  ·rw [if_neg (by omega), if_neg (by omega), if_pos h, ← hV0 _ a b k0l hab hb, ← hV0 _ a b k1l hab hb]
   cases v0 : mhv table (kd parts node 0) a b with
   | true => exact look_or0 g p parts l table n node a b w hM hD hl hn hq hb hab hn1 h _ _ (by omega) k0 k1 (by omega) (by omega) v0
   | false =>
    cases v1 : mhv table (kd parts node 1) a b with
    | true => exact look_or1 g p parts l table n node a b w hM hD hl hn hq hb hab hn1 h _ _ (by omega) k0 k1 (by omega) (by omega) v0 v1
    | false => exact look_or2 g p parts l table n node a b w hM hD hl hn hq hb hab hn1 h _ _ (by omega) k0 k1 (by omega) (by omega) v0 v1
  ·rw [if_neg (by omega), if_neg (by omega), if_neg (by omega), if_pos h, ← hV0 _ a b k0l hab hb, ← hV0 _ a b k1l hab hb]
   cases v0 : mhv table (kd parts node 0) a b with
   | false => exact look_and0 g p parts l table n node a b w hM hD hl hn hq hb hab hn1 h _ _ (by omega) k0 k1 (by omega) (by omega) v0
   | true =>
    cases v1 : mhv table (kd parts node 1) a b with
    | true => exact look_and1 g p parts l table n node a b w hM hD hl hn hq hb hab hn1 h _ _ (by omega) k0 k1 (by omega) (by omega) v0 v1
    | false => exact look_and2 g p parts l table n node a b w hM hD hl hn hq hb hab hn1 h _ _ (by omega) k0 k1 (by omega) (by omega) v0 v1

end Go.Proofs.Ytlmpeaelpchokaa.HFnExactDerivRe
