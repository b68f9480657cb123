/- Written by wip/pr.py of this session, for the law FnExactTidyRe: Lean functions with the answers of the program's, and the proofs of that; where the kit's print has no word, by hand. -/
import Derived.Test.YtlmpeaelpchokaaHFnExactTidyRex0
import Derived.Test.YtlmpeaelpchokaaHFnExactTidyRex13
namespace Go.Proofs.Ytlmpeaelpchokaa.HFnExactTidyRe
open Go.RowKit Go.Proofs.YtlmpeaelpchokaaW.PrintWords Go.Proofs.YtlmpeaelpchokaaW.PrintLast Go.Proofs.YtlmpeaelpchokaaW.PrintMore
attribute [local go_sem] max2_int min2_int max_two min_two max_three min_three max_four min_four   -- for this text's walks alone
set_option linter.unusedVariables false
set_option linter.unusedSimpArgs false

/-! ### impl_clonePat: function 69 -/
def impl_clonePat.l0 : Nat → List (S49) → List (S49) → Int → Int → Option ((List (S49)))
  | 0, _, _, _, _ => none
  | k + 1, x3, x7, x8, x9 => if x9 < x8 then (if 0 ≤ x9 then (if x9 < (x7.length : Int) then ((slices_Clone_int_int.f ((rd_T49 x7 x9).f1)).bind fun t235 => (if x3.length < 4398046511104 then (impl_clonePat.l0 k (x3 ++ [(⟨(rd_T49 x7 x9).f0, t235⟩ : S49)]) x7 x8 (wrap64 (x9 + 1))) else (none))) else (none)) else (none)) else (some x3)
def impl_clonePat.f (k : Nat) (l0 : List (S49)) : Option ((List (S49))) := impl_clonePat.l0 k (([] : List (S49))) l0 (l0.length : Int) 0
theorem impl_clonePat.mono_l : ∀ k, (∀ y0 y1 y2 y3, LeO (impl_clonePat.l0 k y0 y1 y2 y3) (impl_clonePat.l0 (k + 1) y0 y1 y2 y3))
  | 0 => fun _ _ _ _ r h => by simp [impl_clonePat.l0] at h
  | k + 1 => by
    have ih0 := impl_clonePat.mono_l k
    · intro y0 y1 y2 y3
      unfold impl_clonePat.l0
      repeat' first
      | (with_reducible exact ih0 _ _ _ _)
      | (with_reducible exact LeO.refl _)
      | (with_reducible exact LeO.none _)
      | (with_reducible refine LeO.ite ?_ ?_)
      | (with_reducible refine LeO.bind ?_ (fun _ => ?_))
      | exact ih0 _ _ _ _
      | exact LeO.none _
      | refine LeO.ite ?_ ?_
      | refine LeO.bind ?_ (fun _ => ?_)
theorem impl_clonePat.mono : ∀ a0 k, LeO (impl_clonePat.f k a0) (impl_clonePat.f (k + 1) a0) := by
  intro a0 k
  have ih0 := impl_clonePat.mono_l k
  unfold impl_clonePat.f
  repeat' first
      | (with_reducible exact ih0 _ _ _ _)
      | (with_reducible exact LeO.refl _)
      | (with_reducible exact LeO.none _)
      | (with_reducible refine LeO.ite ?_ ?_)
      | (with_reducible refine LeO.bind ?_ (fun _ => ?_))
      | exact ih0 _ _ _ _
      | exact LeO.none _
      | refine LeO.ite ?_ ?_
      | refine LeO.bind ?_ (fun _ => ?_)
def impl_clonePat.T5 : Bool × List (List Nat × List Nat) := (true, [([], []), ([], []), ([1], [1]), ([], []), ([3], [3]), ([4], [4]), ([2, 5], [2, 5]), ([6], [6]), ([0, 7, 5], [0, 7]), ([8, 8, 0, 1, 2, 3, 4, 5, 6, 7, 8], [0, 8])])
def impl_clonePat.B5 : List Nat := [0, 0, 2, 0, 8, 24, 62, 126, 255, 511]
theorem impl_clonePat.tab5 : rtab .any (opsOf Try.f69 5) = impl_clonePat.T5 := by kernel_rfl
theorem impl_clonePat.bits5 : waitsOk impl_clonePat.T5.2 impl_clonePat.B5 = true := by kernel_rfl
set_option maxHeartbeats 8000000 in
set_option maxRecDepth 100000 in
theorem impl_clonePat.calls (k : Nat) (A0 : Option Addr) (c0 : Nat) (l0 : List (S49)) (r : List (S49)) (w : World) (hr0 : Kd.C k49 w A0 l0.length l0) (hc0 : l0.length ≤ c0) (h : impl_clonePat.f k l0 = some r) :
    Calls Try.prog 69 #[.slice A0 l0.length c0] w fun e w' => ∃ v0_ : Value, e = .returned (v0_) ∧ Kd.S k49 49 w' w.heap.size (fun _ => True) v0_ r ∧ Below w.heap.size w w' := by
  have hu49 := Try.underlying49
  have HR0 := Aside0.mk hr0
  have HC0 := Aside0.mk hc0
  clear hr0 hc0
  have HB := Aside0.mk (Below.refl w.heap.size w)
  have H : (impl_clonePat.l0 k (([] : List (S49))) l0 (l0.length : Int) 0) = some r := h
  clear h
  obtain ⟨y230, hy230⟩ : ∃ y_ : List (S49), y_ = (([] : List (S49))) := ⟨_, rfl⟩
  replace H : (impl_clonePat.l0 k y230 l0 (l0.length : Int) 0) = some r := by first | (rw [hy230]; with_reducible exact H) | (have H2_ := (Option.bind_some _ _).symm.trans H; rw [hy230]; with_reducible exact H2_) | (have H2_ := (Option.bind_some _ _).symm.trans H; with_reducible exact H2_) | with_reducible exact H | (rw [hy230]; exact H) | exact H
  have Ny230 := Aside0.mk hy230
  clear hy230
  have H' := Aside0.mk H
  clear H
  go_enter Try.func69, Try.ntmps69
  go_wp2_with (first | ((with_reducible refine gate_dst (N := 6) rfl ?_); refine Kd.S_lit k49 _ 49 ?hg (N := 6) ?hd (xs := ([] : List (S49))) (inner := []) (ok := fun _ => True) (okp := fun _ => True) ?hr ?hp (fun _ hk => hk) trivial (Below.refl _ _) (Nat.le_refl _) (by simp) ?_; (case hd => rfl); (case hg => rfl); (case hr => first | (go_simp; done) | (go_simp; rfl)); (case hp => exact (Reps.none _ _)); intro v231 w2 ho3 hb hg_ hnew_; clear hg_ hnew_; (first | rw [← Ny230.out] at ho3 | (simp only [Int.reduceToNat] at ho3; rw [← Ny230.out] at ho3)); have n0_ := Aside0.mk (Kd.S_lower ho3 (below_size (by repeat (first | (with_reducible first | exact HB.out | apply below_alloc | apply pw_below_drewN | apply below_drew1) | exact HB.out | exact Below.refl _ _)))); have n1_ := Aside0.mk (below_step (by repeat (first | (with_reducible first | exact HB.out | apply below_alloc | apply pw_below_drewN | apply below_drew1) | exact HB.out | exact Below.refl _ _)) hb); clear HB; have HO232 := n0_; have HB := n1_; clear n0_ n1_; clear hb ho3))
  go_loopg [3, 9] k (fun kq v3 v9 w' => ∃ (x3_1 : List (S49)) (x9_1 : Int), v9 = .int .i64 x9_1 ∧ Aside0 (impl_clonePat.l0 kq x3_1 l0 (l0.length : Int) x9_1 = some r) ∧ Aside0 (kq ≤ k) ∧ Aside0 (Kd.S k49 49 w' w.heap.size (fun _ => True) v3 x3_1) ∧ Aside0 (Below w.heap.size w w'))
  case atStart => exact ⟨(y230), (0), (by first | rfl | (simp; done) | (simp [*]; done)), H', ⟨Nat.le_refl _⟩, ⟨by (with_reducible repeat (first | apply Kd.S_alloc | apply Kd.S_drewN | apply Kd.S_drew)); exact HO232.out⟩, ⟨by repeat (first | (with_reducible first | exact HB.out | apply below_alloc | apply pw_below_drewN | apply below_drew1) | exact HB.out | exact Below.refl _ _)⟩⟩
  case round =>
    clear H'
    try clear p2
    obtain ⟨x3_1, x9_1, rfl, HA, HK1, HO_3, HB⟩ := hrel
    cases gk with
    | zero => exact absurd HA.out (by simp [impl_clonePat.l0])
    | succ k1 =>
      have H := HA.out
      clear HA
      simp only [impl_clonePat.l0] at H
      by_cases c4 : x9_1 < (l0.length : Int)
      · rw [if_pos c4] at H
        have c4b0 : decide (x9_1 < (l0.length : Int)) = true := decide_eq_true c4
        clear c4
        by_cases c5 : 0 ≤ x9_1
        · rw [if_pos c5] at H
          have c5b0 : decide (0 ≤ x9_1) = true := decide_eq_true c5
          clear c5
          by_cases c6 : x9_1 < (l0.length : Int)
          · rw [if_pos c6] at H
            have c6b0 : decide (x9_1 < (l0.length : Int)) = true := decide_eq_true c6
            clear c6
            replace H := Option.bind_eq_some_iff.mp H
            obtain ⟨t235, A70, H⟩ := H
            replace H : (if x3_1.length < 4398046511104 then (impl_clonePat.l0 k1 (x3_1 ++ [(⟨(rd_T49 l0 x9_1).f0, t235⟩ : S49)]) l0 (l0.length : Int) (wrap64 (x9_1 + 1))) else (none)) = some r := H
            have A7 := Aside0.mk A70
            clear A70
            by_cases c8 : x3_1.length < 4398046511104
            · rw [if_pos c8] at H
              have LMc8 := Aside0.mk c8
              clear c8
              obtain ⟨y238, hy238⟩ : ∃ y_ : List (S49), y_ = (x3_1 ++ [(⟨(rd_T49 l0 x9_1).f0, t235⟩ : S49)]) := ⟨_, rfl⟩
              replace H : (impl_clonePat.l0 k1 y238 l0 (l0.length : Int) (wrap64 (x9_1 + 1))) = some r := by first | (rw [hy238]; with_reducible exact H) | (have H2_ := (Option.bind_some _ _).symm.trans H; rw [hy238]; with_reducible exact H2_) | (have H2_ := (Option.bind_some _ _).symm.trans H; with_reducible exact H2_) | with_reducible exact H | (rw [hy238]; exact H) | exact H
              have Ny238 := Aside0.mk hy238
              clear hy238
              have H' := Aside0.mk H
              clear H
              have p233 : 0 ≤ (x9_1 : Int) := of_decide_eq_true (by first | (with_reducible assumption) | assumption)
              have q233 : x9_1 < (l0.length : Int) := of_decide_eq_true (by first | (with_reducible assumption) | assumption)
              obtain ⟨ad233, A233_1, c233_1, e233, hx233_0, hx233_1, hl233_1, hi233_1⟩ := at_T49 HR0.out x9_1 p233 q233
              cases e233
              replace hx233_0 := (HB.out.cell (World.block_lt_of_cell? w _ hx233_0)).trans hx233_0
              replace hx233_1 := (HB.out.cell (World.block_lt_of_cell? w _ hx233_1)).trans hx233_1
              have HR233_1 := Aside0.mk hi233_1
              have HC233_1 := Aside0.mk hl233_1
              clear hi233_1 hl233_1
              replace p233 := eq_true p233
              replace q233 := eq_true q233
              try go_wp2_with (first | ((with_reducible refine gate_dst (N := 5) rfl ?_); refine box_event ?hg (N := 5) ?hd (cs := #[.int .i64 0, .slice none 0 0]) (t := 49) ?hr ?_; (case hd => rfl); (case hg => rfl); (case hr => first | (go_simp; done) | (go_simp; rfl)); intro gb234 hg w9 hbox hb; have n0_ := Aside0.mk (Kd.S_below (Kd.S_elderB (by (with_reducible repeat (first | apply Kd.S_alloc | apply Kd.S_drewN | apply Kd.S_drew)); exact HO_3.out) gb234 (Nat.le_of_eq hg.symm)) hb); have n1_ := Aside0.mk (below_step (by repeat (first | (with_reducible first | exact HB.out | apply below_alloc | apply pw_below_drewN | apply below_drew1) | exact HB.out | exact Below.refl _ _)) hb); have n2_ := Aside0.mk (hbox); have n3_ := Aside0.mk ((by rw [hg]; exact (below_size (by repeat (first | (with_reducible first | exact HB.out | apply below_alloc | apply pw_below_drewN | apply below_drew1) | exact HB.out | exact Below.refl _ _))) : w.heap.size ≤ gb234)); have n4_ := Aside0.mk ((by rw [hg]; exact (below_size (by repeat (first | (with_reducible first | exact HB.out | apply below_alloc | apply pw_below_drewN | apply below_drew1) | exact HB.out | exact Below.refl _ _))) : w.heap.size ≤ gb234)); clear HO_3; clear HB; have HO_3 := n0_; have HB := n1_; have BK234 := n2_; have GW234 := n3_; have GE234 := n4_; clear n0_ n1_ n2_ n3_ n4_; clear hb hbox hg; have hcz10_0 : w9.cell? ⟨gb234, 0, none⟩ = some (.int .i64 0) := (blk_cell BK234.out 0).trans rfl; have hcz10_1 : w9.cell? ⟨gb234, 1, none⟩ = some (.slice none 0 0) := (blk_cell BK234.out 1).trans rfl; have hfz10_0 := blk_frozen BK234.out 0; have hfz10_1 := blk_frozen BK234.out 1))
              have n0_ : Aside0 (Kd.S k49 49 ((w9.setCell ⟨gb234, 0, none⟩ (.int .i64 ((rd_T49 l0 x9_1).f0))).setCell ⟨gb234, 1, none⟩ (.slice A233_1 ((rd_T49 l0 x9_1).f1).length c233_1)) w.heap.size (fun k_ => k_ ≠ gb234) u3 x3_1) := ⟨by (with_reducible repeat (first | apply Kd.S_alloc | apply Kd.S_drewN | apply Kd.S_drew)); exact Kd.S_mono (Kd.S_far (p := ⟨gb234, 1, none⟩) (Kd.S_far (p := ⟨gb234, 0, none⟩) (Kd.S_mono HO_3.out (fun k_ hk => (⟨hk, hk.2⟩ : _ ∧ k_ ≠ gb234))) (fun _ hk => hk.2) (.int .i64 ((rd_T49 l0 x9_1).f0))) (fun _ hk => hk.2) (.slice A233_1 ((rd_T49 l0 x9_1).f1).length c233_1)) (fun _ hk => hk.1.2)⟩
              have n1_ : Aside0 (((w9.setCell ⟨gb234, 0, none⟩ (.int .i64 ((rd_T49 l0 x9_1).f0))).setCell ⟨gb234, 1, none⟩ (.slice A233_1 ((rd_T49 l0 x9_1).f1).length c233_1)).heap[gb234]? = some (.cells #[.int .i64 ((rd_T49 l0 x9_1).f0), .slice A233_1 ((rd_T49 l0 x9_1).f1).length c233_1] 49 (0, 0))) := ⟨by (with_reducible repeat (first | refine blk_drewN ?_ _ | refine blk_drew ?_ | refine blk_alloc ?_ _)); refine blk_put (cs := #[.int .i64 ((rd_T49 l0 x9_1).f0), .slice none 0 0]) ?_ 1 _ rfl; (with_reducible repeat (first | refine blk_drewN ?_ _ | refine blk_drew ?_ | refine blk_alloc ?_ _)); refine blk_put (cs := #[.int .i64 0, .slice none 0 0]) ?_ 0 _ rfl; (with_reducible repeat (first | refine blk_drewN ?_ _ | refine blk_drew ?_ | refine blk_alloc ?_ _)); exact BK234.out⟩
              have n2_ : Aside0 (Below w.heap.size w ((w9.setCell ⟨gb234, 0, none⟩ (.int .i64 ((rd_T49 l0 x9_1).f0))).setCell ⟨gb234, 1, none⟩ (.slice A233_1 ((rd_T49 l0 x9_1).f1).length c233_1))) := ⟨by repeat (first | (with_reducible first | exact HB.out | apply below_alloc | apply pw_below_drewN | apply below_drew1 | refine below_set ?_ GE234.out) | exact HB.out)⟩
              (try clear HO_3)
              (try clear BK234)
              (try clear HB)
              generalize ((w9.setCell ⟨gb234, 0, none⟩ (.int .i64 ((rd_T49 l0 x9_1).f0))).setCell ⟨gb234, 1, none⟩ (.slice A233_1 ((rd_T49 l0 x9_1).f1).length c233_1)) = w11 at n0_ n1_ n2_ ⊢
              have HO_3 := n0_
              have BK234 := n1_
              have HB := n2_
              clear n0_ n1_ n2_
              have n0_ := Aside0.mk (Kd.S_drew HO_3.out)
              have n1_ := Aside0.mk (blk_drew BK234.out)
              have n2_ := Aside0.mk (below_drew1 HB.out)
              clear HO_3
              clear BK234
              clear HB
              have HO_3 := n0_
              have BK234 := n1_
              have HB := n2_
              clear n0_ n1_ n2_
              refine start_ (n := 10) (S := fun w' => w'.cell? ⟨gb234, 0, none⟩ = some (.int .i64 ((rd_T49 l0 x9_1).f0)) ∧ w'.cell? ⟨gb234, 1, none⟩ = some (.slice A233_1 ((rd_T49 l0 x9_1).f1).length c233_1)) (ds := []) #[false, false, false, false, false, false, false, false, false, false] (by kernel_rfl) rfl rfl ⟨(blk_cell BK234.out 0).trans rfl, (blk_cell BK234.out 1).trans rfl⟩ (fun hHeld => ?_); refine with_tabW impl_clonePat.tab5 impl_clonePat.bits5 (fun HT_ HW_ => ?_)
              generalize w11.drew = w12 at HO_3 BK234 HB hHeld ⊢
              refine pure_ (i := 0) (N := some 13) (v := ?_) (a' := ?_) #[true, false, false, false, false, false, false, false, false, false] rfl rfl (any_of HT_.out (by kernel_rfl)) (fun _ _ _ h => h) (Or.inl ⟨by rfl, ?_⟩) ?_ ?_
              rotate_left
              · intro w'
                go_simp
                with_reducible rfl
              rotate_left
              · simp only [Act.put, List.setIfInBounds_toArray, List.set_cons_zero, List.set_cons_succ, i64_w, i32_w]
                rfl
              refine pure_ (i := 1) (N := some 14) (v := ?_) (a' := ?_) #[true, true, false, false, false, false, false, false, false, false] rfl rfl (any_of HT_.out (by kernel_rfl)) (fun _ _ _ h => h) (Or.inl ⟨by rfl, ?_⟩) ?_ ?_
              rotate_left
              · intro w'
                go_simp
                with_reducible rfl
              rotate_left
              · simp only [Act.put, List.setIfInBounds_toArray, List.set_cons_zero, List.set_cons_succ, i64_w, i32_w]
                rfl
              refine pure_ (i := 3) (N := some 16) (v := ?_) (a' := ?_) #[true, true, false, true, false, false, false, false, false, false] rfl rfl (any_of HT_.out (by kernel_rfl)) (fun _ _ _ h => h) (Or.inl ⟨by rfl, ?_⟩) ?_ ?_
              rotate_left
              · intro w'
                go_simp
                with_reducible rfl
              rotate_left
              · simp only [Act.put, List.setIfInBounds_toArray, List.set_cons_zero, List.set_cons_succ, i64_w, i32_w]
                rfl
              refine take_ (i := 2) (N := some 15) (v := ?_) (a' := ?_) #[true, true, true, true, false, false, false, false, false, false] rfl rfl (take_ofW HT_.out HW_.out (by kernel_rfl)) (fun _ _ _ h => h) (Or.inl ⟨by rfl, ?_⟩) hHeld ?_ ?_
              rotate_left
              · rintro w' ⟨s0, s1⟩
                go_simp
                with_reducible rfl
              rotate_left
              · simp only [Act.put, List.setIfInBounds_toArray, List.set_cons_zero, List.set_cons_succ, i64_w, i32_w]
                rfl
              refine take_ (i := 4) (N := some 17) (v := ?_) (a' := ?_) #[true, true, true, true, true, false, false, false, false, false] rfl rfl (take_ofW HT_.out HW_.out (by kernel_rfl)) (fun _ _ _ h => h) (Or.inl ⟨by rfl, ?_⟩) hHeld ?_ ?_
              rotate_left
              · rintro w' ⟨s0, s1⟩
                go_simp
                with_reducible rfl
              rotate_left
              · simp only [Act.put, List.setIfInBounds_toArray, List.set_cons_zero, List.set_cons_succ, i64_w, i32_w]
                rfl
              refine one_ (i := 5) (N := some 18) #[true, true, true, true, true, true, false, false, false, false] rfl rfl (one_of HT_.out (by kernel_rfl)) (by decide) (fun K hK => ?_)
              refine goes_ Try.func85 (by kernel_rfl) rfl #[.slice A233_1 ((rd_T49 l0 x9_1).f1).length c233_1] (by rfl) rfl rfl (by (try simp only [List.map_toArray, List.map_cons, List.map_nil]); first | done | rfl | (simp only [List.length_drop, List.length_take]; rfl)) ?_
              with_reducible refine (slices_Clone_int_int.calls _ _ ((rd_T49 l0 x9_1).f1) t235 _ ?side1 ?side2 A7.out).mono ?_
              (case side1 => repeat (first | exact (Kd.C_below HR233_1.out HB.out) | exact HR233_1.out | (with_reducible refine Kd.C_alloc ?_ _) | (with_reducible refine Kd.C_drewN ?_ _) | (with_reducible refine Kd.C_drew ?_)))
              (case side2 => exact HC233_1.out)
              rintro e w13 ⟨v236, rfl, ho0, hb⟩
              refine ⟨_, rfl, ?_⟩
              have n0_ := Aside0.mk (Kd.S_elder' (by (with_reducible repeat (first | apply Kd.S_alloc | apply Kd.S_drewN | apply Kd.S_drew)); exact HO_3.out) (Kd.R_base ho0) hb)
              have n1_ := Aside0.mk (Kd.R_lower ho0 (below_size (by repeat (first | (with_reducible first | exact HB.out | apply below_alloc | apply pw_below_drewN | apply below_drew1 | refine below_set ?_ GE234.out) | exact HB.out))))
              have n2_ := Aside0.mk (blk_below (g := gb234) (o := .cells #[.int .i64 ((rd_T49 l0 x9_1).f0), .slice A233_1 ((rd_T49 l0 x9_1).f1).length c233_1] 49 (0, 0)) (by (with_reducible repeat (first | refine blk_drewN ?_ _ | refine blk_drew ?_ | refine blk_alloc ?_ _)); exact BK234.out) hb)
              have n3_ := Aside0.mk (below_step (by repeat (first | (with_reducible first | exact HB.out | apply below_alloc | apply pw_below_drewN | apply below_drew1 | refine below_set ?_ GE234.out) | exact HB.out)) hb)
              clear HO_3
              clear BK234
              clear HB
              have HO_3 := n0_
              have HO237 := n1_
              have BK234 := n2_
              have HB := n3_
              clear n0_ n1_ n2_ n3_
              (try clear hb)
              (try clear hb2)
              (try clear hk)
              (try clear hi)
              (try clear ho0)
              obtain ⟨Ao14, co14, eo14⟩ := Kd.R_slice HO237.out
              (first | subst eo14 | (injection eo14 with f1_ f2_ f3_; have f4_ := f1_.symm; have f5_ := f3_.symm; clear f1_ f2_ f3_; subst f4_; subst f5_))
              refine hK.out _ _ ⟨(blk_cell BK234.out 0).trans rfl, (blk_cell BK234.out 1).trans rfl⟩ (fun hHeld => ?_)
              clear hK K
              refine norm_ (a' := ?_) ?_ ?_
              rotate_left
              · show Act.put _ (some 18) _ = _
                simp only [Act.put, List.setIfInBounds_toArray, List.set_cons_zero, List.set_cons_succ, i64_w, i32_w]
                rfl
              refine pure_ (i := 6) (N := some 19) (v := ?_) (a' := ?_) #[true, true, true, true, true, true, true, false, false, false] rfl rfl (any_of HT_.out (by kernel_rfl)) (fun _ _ _ h => h) (Or.inl ⟨by rfl, ?_⟩) ?_ ?_
              rotate_left
              · intro w'
                go_simp
                with_reducible rfl
              rotate_left
              · simp only [Act.put, List.setIfInBounds_toArray, List.set_cons_zero, List.set_cons_succ, i64_w, i32_w]
                rfl
              refine one_ (i := 7) (N := some 20) #[true, true, true, true, true, true, true, true, false, false] rfl rfl (one_of HT_.out (by kernel_rfl)) (by decide) (fun K hK => ?_)
              refine value_ (w1 := ?_) (v := ?_) (by rfl) rfl ?_ ?_
              rotate_left 2
              · go_simp
                constructor
                · rfl
                · rfl
              refine hK.out _ _ ⟨(blk_cell (blk_alloc BK234.out _) 0).trans rfl, (blk_cell (blk_alloc BK234.out _) 1).trans rfl⟩ (fun hHeld => ?_)
              clear hK K
              refine norm_ (a' := ?_) ?_ ?_
              rotate_left
              · show Act.put _ (some 20) _ = _
                simp only [Act.put, List.setIfInBounds_toArray, List.set_cons_zero, List.set_cons_succ, i64_w, i32_w]
                rfl
              refine one_ (i := 8) (N := some 21) #[true, true, true, true, true, true, true, true, true, false] rfl rfl (one_of HT_.out (by kernel_rfl)) (by decide) (fun K hK => ?_)
              refine Kd.S_append_step k49 (w0 := w) w.heap.size (by rfl) (.tmp 13) (.tmp 20) 25 49 (.agg #[(.int .i64 0), (.slice none 0 0)]) 32 rfl Try.underlying25 info49 rfl (by decide) (by omega) u3 x3_1 (⟨(rd_T49 l0 x9_1).f0, t235⟩ : S49) [.int .i64 ((rd_T49 l0 x9_1).f0), .slice Ao14 t235.length co14] (fun k_ => k_ ≠ gb234) (fun k_ => some k_ = (.slice Ao14 t235.length co14 : Value).ownBlock) rfl rfl ?aP (fun k_ hk_ => ((Kd.R_mono (ok' := fun k_ => ((fun k_ => k_ ≠ gb234)) k_ ∧ some k_ ≠ (u3 : Value).ownBlock) (Kd.R_types (Kd.R_apart' (HO237.out) (Kd.S_typed HO_3.out) (by decide)) BK234.out (by decide)) (fun k_ hk => ⟨hk.2, hk.1.2⟩))).1 k_ hk_.symm) ?aF ?aO ?aB ?aS ?aL ?_
              (case aP => exact k49_mkM _ _ _ (⟨(rd_T49 l0 x9_1).f0, t235⟩ : S49) (Kd.R_mono (Kd.R_tight rfl (Kd.R_mono (ok' := fun k_ => ((fun k_ => k_ ≠ gb234)) k_ ∧ some k_ ≠ (u3 : Value).ownBlock) (Kd.R_types (Kd.R_apart' (HO237.out) (Kd.S_typed HO_3.out) (by decide)) BK234.out (by decide)) (fun k_ hk => ⟨hk.2, hk.1.2⟩))) (fun _ h_ => h_)))
              (case aB => exact (by repeat (first | (with_reducible first | exact HB.out | apply below_alloc | apply pw_below_drewN | apply below_drew1 | refine below_set ?_ GE234.out) | exact HB.out)))
              (case aF => exact (fun k_ hk => Kd.freshB (g := gb234) (o := .cells #[.int .i64 ((rd_T49 l0 x9_1).f0), .slice A233_1 ((rd_T49 l0 x9_1).f1).length c233_1] 49 (0, 0)) (by (with_reducible repeat (first | refine blk_drewN ?_ _ | refine blk_drew ?_ | refine blk_alloc ?_ _)); exact BK234.out) k_ hk))
              (case aO => exact (by (with_reducible repeat (first | apply Kd.S_alloc | apply Kd.S_drewN | apply Kd.S_drew)); exact Kd.S_mono HO_3.out (fun k_ hk => ⟨hk.1, fun e_ => hk.2 e_⟩)))
              (case aS => exact (below_size (by repeat (first | (with_reducible first | exact HB.out | apply below_alloc | apply pw_below_drewN | apply below_drew1 | refine below_set ?_ GE234.out) | exact HB.out))))
              (case aL => have := LMc8.out; omega)
              intro v239 w15 ho hb hg hat
              rw [← Ny238.out] at ho
              have n0_ := Aside0.mk (blk_grown (g := gb234) (o := .cells #[.int .i64 ((rd_T49 l0 x9_1).f0), .slice A233_1 ((rd_T49 l0 x9_1).f1).length c233_1] 49 (0, 0)) (by (with_reducible repeat (first | refine blk_drewN ?_ _ | refine blk_drew ?_ | refine blk_alloc ?_ _)); exact BK234.out) hg (Kd.S_away HO_3.out (fun _ hk => hk.1)))
              have n1_ := Aside0.mk (hb)
              have n2_ := Aside0.mk (ho)
              clear BK234
              clear HB
              clear HO_3
              clear HO237
              have BK234 := n0_
              have HB := n1_
              have HO240 := n2_
              clear n0_ n1_ n2_
              clear ho hb hg hat
              refine hK.out _ _ ⟨(blk_cell BK234.out 0).trans rfl, (blk_cell BK234.out 1).trans rfl⟩ (fun hHeld => ?_)
              clear hK K
              refine norm_ (a' := ?_) ?_ ?_
              rotate_left
              · show Act.put _ (some 21) _ = _
                simp only [Act.put, List.setIfInBounds_toArray, List.set_cons_zero, List.set_cons_succ, i64_w, i32_w]
                rfl
              refine pure_ (i := 9) (N := some 3) (v := ?_) (a' := ?_) #[true, true, true, true, true, true, true, true, true, true] rfl rfl (any_of HT_.out (by kernel_rfl)) (fun _ _ _ h => h) (Or.inl ⟨by rfl, ?_⟩) ?_ ?_
              rotate_left
              · intro w'
                go_simp
                with_reducible rfl
              rotate_left
              · simp only [Act.put, List.setIfInBounds_toArray, List.set_cons_zero, List.set_cons_succ, i64_w, i32_w]
                rfl
              refine done_ (done_of HT_.out (by kernel_rfl)) ?_
              try go_wp2
              go_roundg k1
              case measure => have := HK1.out; omega
              case rel => exact ⟨(y238), (wrap64 (x9_1 + 1)), (by first | rfl | (simp; done) | (simp [*]; done)), H', ⟨by have := HK1.out; omega⟩, ⟨by (with_reducible repeat (first | apply Kd.S_alloc | apply Kd.S_drewN | apply Kd.S_drew)); exact Kd.S_mono HO240.out (fun _ hk => trivial)⟩, ⟨by repeat (first | (with_reducible first | exact HB.out | apply below_alloc | apply pw_below_drewN | apply below_drew1 | refine below_set ?_ GE234.out) | exact HB.out)⟩⟩
            · rw [if_neg c8] at H
              exact absurd H (by simp)
          · rw [if_neg c6] at H
            exact absurd H (by simp)
        · rw [if_neg c5] at H
          exact absurd H (by simp)
      · rw [if_neg c4] at H
        have c4b0 : decide (x9_1 < (l0.length : Int)) = false := decide_eq_false c4
        (try rw [hl0_1] at c4b0)
        clear c4
        obtain rfl := Option.some.inj H
        go_wp2
        go_ret
        exact ⟨_, by first | rfl | (simp [errW_none, errW_some] <;> rfl) | (simp [*, errW_none, errW_some] <;> rfl), by (with_reducible repeat (first | apply Kd.S_alloc | apply Kd.S_drewN | apply Kd.S_drew)); exact HO_3.out, by repeat (first | (with_reducible first | exact HB.out | apply below_alloc | apply pw_below_drewN | apply below_drew1) | exact HB.out | exact Below.refl _ _)⟩

/-! ### impl_split: function 95 -/
def impl_split.f (k : Nat) (l0 : List (S49)) : Option (Int × (List (S49)) × (List (S49))) := if 0 ≤ (wrap64 ((l0.length : Int) - 1)) then (if (wrap64 ((l0.length : Int) - 1)) < (l0.length : Int) then ((impl_partsOf.f k ((rd_T49 l0 (wrap64 ((l0.length : Int) - 1))).f0)).bind fun t242 => (if t242 = 0 then (some ((rd_T49 l0 (wrap64 ((l0.length : Int) - 1))).f0, ([] : List (S49)), ([] : List (S49)))) else (if t242 = 1 then (if (wrap64 ((l0.length : Int) - 1)) ≤ (l0.length : Int) then (some ((rd_T49 l0 (wrap64 ((l0.length : Int) - 1))).f0, (l0.take ((wrap64 ((l0.length : Int) - 1)) : Int).toNat), ([] : List (S49)))) else (none)) else ((impl_parts.f k l0).bind fun bt250 => (if (wrap64 ((l0.length : Int) - 1)) < (bt250.1.length : Int) then (if 0 < ((rd_L1 bt250.1 (wrap64 ((l0.length : Int) - 1))).length : Int) then (if 0 ≤ (wrap64 ((rd (rd_L1 bt250.1 (wrap64 ((l0.length : Int) - 1))) 0) + 1)) then (if (wrap64 ((rd (rd_L1 bt250.1 (wrap64 ((l0.length : Int) - 1))) 0) + 1)) ≤ (l0.length : Int) then (if (wrap64 ((rd (rd_L1 bt250.1 (wrap64 ((l0.length : Int) - 1))) 0) + 1)) ≤ (wrap64 ((l0.length : Int) - 1)) then (if (wrap64 ((l0.length : Int) - 1)) ≤ (l0.length : Int) then (some ((rd_T49 l0 (wrap64 ((l0.length : Int) - 1))).f0, (l0.take ((wrap64 ((rd (rd_L1 bt250.1 (wrap64 ((l0.length : Int) - 1))) 0) + 1)) : Int).toNat), ((l0.take ((wrap64 ((l0.length : Int) - 1)) : Int).toNat).drop ((wrap64 ((rd (rd_L1 bt250.1 (wrap64 ((l0.length : Int) - 1))) 0) + 1)) : Int).toNat))) else (none)) else (none)) else (none)) else (none)) else (none)) else (none)))))) else (none)) else (none)
theorem impl_split.mono : ∀ a0 k, LeO (impl_split.f k a0) (impl_split.f (k + 1) a0) := by
  intro a0 k
  unfold impl_split.f
  repeat' first
      | (with_reducible exact impl_parts.mono _ _)
      | (with_reducible exact impl_partsOf.mono _ _)
      | (with_reducible exact LeO.refl _)
      | (with_reducible exact LeO.none _)
      | (with_reducible refine LeO.ite ?_ ?_)
      | (with_reducible refine LeO.bind ?_ (fun _ => ?_))
      | exact impl_parts.mono _ _
      | exact impl_partsOf.mono _ _
      | exact LeO.none _
      | refine LeO.ite ?_ ?_
      | refine LeO.bind ?_ (fun _ => ?_)
set_option maxHeartbeats 8000000 in
set_option maxRecDepth 100000 in
theorem impl_split.calls (k : Nat) (P0_ : Nat → Prop) (A0 : Option Addr) (c0 : Nat) (l0 : List (S49)) (r1 : Int) (r2 : List (S49)) (r3 : List (S49)) (w : World) (hs0 : Kd.V k49 49 w w.heap.size (fun k_ => P0_ k_) (.slice A0 l0.length c0) l0) (h : impl_split.f k l0 = some (r1, r2, r3)) :
    Calls Try.prog 95 #[.slice A0 l0.length c0] w fun e w' => ∃ v1_ v2_ : Value, e = .returned (.tuple #[.int .i64 r1, v1_, v2_]) ∧ Kd.V k49 49 w' w.heap.size (fun k_ => (P0_ k_ ∨ w.heap.size ≤ k_)) v1_ r2 ∧ Kd.V k49 49 w' w.heap.size (fun k_ => (P0_ k_ ∨ w.heap.size ≤ k_)) v2_ r3 ∧ Below w.heap.size w w' := by
  have HO0 := Aside0.mk (show Kd.V k49 49 w w.heap.size (fun k_ => (P0_ k_ ∨ w.heap.size ≤ k_)) (.slice A0 l0.length c0) l0 from Kd.V_mono hs0 (fun k_ hk => .inl hk))
  have HB := Aside0.mk (Below.refl w.heap.size w)
  have H : (if 0 ≤ (wrap64 ((l0.length : Int) - 1)) then (if (wrap64 ((l0.length : Int) - 1)) < (l0.length : Int) then ((impl_partsOf.f k ((rd_T49 l0 (wrap64 ((l0.length : Int) - 1))).f0)).bind fun t242 => (if t242 = 0 then (some ((rd_T49 l0 (wrap64 ((l0.length : Int) - 1))).f0, ([] : List (S49)), ([] : List (S49)))) else (if t242 = 1 then (if (wrap64 ((l0.length : Int) - 1)) ≤ (l0.length : Int) then (some ((rd_T49 l0 (wrap64 ((l0.length : Int) - 1))).f0, (l0.take ((wrap64 ((l0.length : Int) - 1)) : Int).toNat), ([] : List (S49)))) else (none)) else ((impl_parts.f k l0).bind fun bt250 => (if (wrap64 ((l0.length : Int) - 1)) < (bt250.1.length : Int) then (if 0 < ((rd_L1 bt250.1 (wrap64 ((l0.length : Int) - 1))).length : Int) then (if 0 ≤ (wrap64 ((rd (rd_L1 bt250.1 (wrap64 ((l0.length : Int) - 1))) 0) + 1)) then (if (wrap64 ((rd (rd_L1 bt250.1 (wrap64 ((l0.length : Int) - 1))) 0) + 1)) ≤ (l0.length : Int) then (if (wrap64 ((rd (rd_L1 bt250.1 (wrap64 ((l0.length : Int) - 1))) 0) + 1)) ≤ (wrap64 ((l0.length : Int) - 1)) then (if (wrap64 ((l0.length : Int) - 1)) ≤ (l0.length : Int) then (some ((rd_T49 l0 (wrap64 ((l0.length : Int) - 1))).f0, (l0.take ((wrap64 ((rd (rd_L1 bt250.1 (wrap64 ((l0.length : Int) - 1))) 0) + 1)) : Int).toNat), ((l0.take ((wrap64 ((l0.length : Int) - 1)) : Int).toNat).drop ((wrap64 ((rd (rd_L1 bt250.1 (wrap64 ((l0.length : Int) - 1))) 0) + 1)) : Int).toNat))) else (none)) else (none)) else (none)) else (none)) else (none)) else (none)))))) else (none)) else (none)) = some (r1, r2, r3) := h
  clear h
  obtain ⟨ji2, hji2⟩ : ∃ j_ : Int, (wrap64 ((l0.length : Int) - 1)) = j_ := ⟨_, rfl⟩
  replace H : (if 0 ≤ (ji2) then (if (ji2) < (l0.length : Int) then ((impl_partsOf.f k ((rd_T49 l0 (ji2)).f0)).bind fun t242 => (if t242 = 0 then (some ((rd_T49 l0 (ji2)).f0, ([] : List (S49)), ([] : List (S49)))) else (if t242 = 1 then (if (ji2) ≤ (l0.length : Int) then (some ((rd_T49 l0 (ji2)).f0, (l0.take ((ji2) : Int).toNat), ([] : List (S49)))) else (none)) else ((impl_parts.f k l0).bind fun bt250 => (if (ji2) < (bt250.1.length : Int) then (if 0 < ((rd_L1 bt250.1 (ji2)).length : Int) then (if 0 ≤ (wrap64 ((rd (rd_L1 bt250.1 (ji2)) 0) + 1)) then (if (wrap64 ((rd (rd_L1 bt250.1 (ji2)) 0) + 1)) ≤ (l0.length : Int) then (if (wrap64 ((rd (rd_L1 bt250.1 (ji2)) 0) + 1)) ≤ (ji2) then (if (ji2) ≤ (l0.length : Int) then (some ((rd_T49 l0 (ji2)).f0, (l0.take ((wrap64 ((rd (rd_L1 bt250.1 (ji2)) 0) + 1)) : Int).toNat), ((l0.take ((ji2) : Int).toNat).drop ((wrap64 ((rd (rd_L1 bt250.1 (ji2)) 0) + 1)) : Int).toNat))) else (none)) else (none)) else (none)) else (none)) else (none)) else (none)))))) else (none)) else (none)) = some (r1, r2, r3) := by first | (rw [hji2] at H; exact H) | (simp only [hji2] at H ⊢; exact H)
  have hji2w : (IntKind.i64.wrap ((l0.length : Int) - 1)) = ji2 := (i64_w _).trans hji2
  by_cases c3 : 0 ≤ (ji2)
  · rw [if_pos c3] at H
    have c3b0 : decide (0 ≤ (ji2)) = true := decide_eq_true c3
    clear c3
    by_cases c4 : (ji2) < (l0.length : Int)
    · rw [if_pos c4] at H
      have c4b0 : decide ((ji2) < (l0.length : Int)) = true := decide_eq_true c4
      clear c4
      replace H := Option.bind_eq_some_iff.mp H
      obtain ⟨t242, A50, H⟩ := H
      replace H : (if t242 = 0 then (some ((rd_T49 l0 (ji2)).f0, ([] : List (S49)), ([] : List (S49)))) else (if t242 = 1 then (if (ji2) ≤ (l0.length : Int) then (some ((rd_T49 l0 (ji2)).f0, (l0.take ((ji2) : Int).toNat), ([] : List (S49)))) else (none)) else ((impl_parts.f k l0).bind fun bt250 => (if (ji2) < (bt250.1.length : Int) then (if 0 < ((rd_L1 bt250.1 (ji2)).length : Int) then (if 0 ≤ (wrap64 ((rd (rd_L1 bt250.1 (ji2)) 0) + 1)) then (if (wrap64 ((rd (rd_L1 bt250.1 (ji2)) 0) + 1)) ≤ (l0.length : Int) then (if (wrap64 ((rd (rd_L1 bt250.1 (ji2)) 0) + 1)) ≤ (ji2) then (if (ji2) ≤ (l0.length : Int) then (some ((rd_T49 l0 (ji2)).f0, (l0.take ((wrap64 ((rd (rd_L1 bt250.1 (ji2)) 0) + 1)) : Int).toNat), ((l0.take ((ji2) : Int).toNat).drop ((wrap64 ((rd (rd_L1 bt250.1 (ji2)) 0) + 1)) : Int).toNat))) else (none)) else (none)) else (none)) else (none)) else (none)) else (none))))) = some (r1, r2, r3) := H
      have A5 := Aside0.mk A50
      clear A50
      by_cases c6 : t242 = 0
      · rw [if_pos c6] at H
        have c6b0 : (t242 == 0) = true := beq_iff_eq.mpr c6
        have c6b1 : (t242 != 0) = false := bne_eq_false_iff_eq.mpr c6
        clear c6
        simp only [Option.some.injEq, Prod.mk.injEq] at H
        obtain ⟨rfl, rfl, rfl⟩ := H
        have p241 : 0 ≤ ((ji2) : Int) := of_decide_eq_true (by first | (with_reducible assumption) | assumption)
        have q241 : (ji2) < (l0.length : Int) := of_decide_eq_true (by first | (with_reducible assumption) | assumption)
        obtain ⟨ad241, A241_1, c241_1, e241, hx241_0, hx241_1, hl241_1, hi241_1⟩ := at_T49 (Kd.V_reads' HO0.out).2.2 (ji2) p241 q241
        cases e241
        obtain ⟨ce241, hce241, hMe241, hcc241⟩ := Kd.V_get HO0.out z49 (ji2) p241 (by first | exact q241 | exact of_decide_eq_true (by first | (with_reducible assumption) | assumption) | (have e_ := (Kd.V_reads' HO0.out).1; omega))
        obtain ⟨ua241_1, uc241_1, rfl, ul241_1, ge241_1⟩ := k49_openF hMe241
        have hv241_1 := hcc241 1 _ rfl
        rw [add_field _ _ 1 (by omega)] at hv241_1
        replace hv241_1 := Option.some.inj (hv241_1.symm.trans hx241_1)
        injection hv241_1 with hva_ hvn_ hvc_
        rw [hva_] at ge241_1
        rw [hvc_] at ul241_1
        have HL241_1 := Aside0.mk (show Kd.V (Kd.int .i64) 3 _ w.heap.size _ _ ((rd_T49 l0 (ji2)).f1) from Kd.V_mk ul241_1 ge241_1)
        clear hva_ hvn_ hvc_ ge241_1 ul241_1
        clear hcc241 hce241
        have HR241_1 := Aside0.mk hi241_1
        have HC241_1 := Aside0.mk hl241_1
        clear hi241_1 hl241_1
        replace p241 := eq_true p241
        replace q241 := eq_true q241
        go_enter Try.func95, Try.ntmps95
        go_wp2_with (first | (go_at_call 84; (with_reducible refine (impl_partsOf.calls k ((rd_T49 l0 (ji2)).f0) t242 _ A5.out).mono ?_); rintro e w' ⟨rfl, ⟨nd, rfl⟩⟩; (try first | exact ⟨rfl, _, World.drewN_drewN _ _ _⟩ | exact ⟨rfl, _, Eq.trans (World.drewN_drewN _ _ _) (congrArg (World.drewN _) (Nat.add_assoc _ _ _))⟩); have p243 : 0 ≤ ((ji2) : Int) := of_decide_eq_true (by first | (with_reducible assumption) | assumption); have q243 : (ji2) < (l0.length : Int) := of_decide_eq_true (by first | (with_reducible assumption) | assumption); obtain ⟨ad243, A243_1, c243_1, e243, hx243_0, hx243_1, hl243_1, hi243_1⟩ := at_T49 (Kd.V_reads' HO0.out).2.2 (ji2) p243 q243; obtain rfl : ad241 = ad243 := (by injection e243); obtain ⟨ce243, hce243, hMe243, hcc243⟩ := Kd.V_get HO0.out z49 (ji2) p243 (by first | exact q243 | exact of_decide_eq_true (by first | (with_reducible assumption) | assumption) | (have e_ := (Kd.V_reads' HO0.out).1; omega)); obtain ⟨ua243_1, uc243_1, rfl, ul243_1, ge243_1⟩ := k49_openF hMe243; have hv243_1 := hcc243 1 _ rfl; rw [add_field _ _ 1 (by omega)] at hv243_1; replace hv243_1 := Option.some.inj (hv243_1.symm.trans hx243_1); injection hv243_1 with hva_ hvn_ hvc_; rw [hva_] at ge243_1; rw [hvc_] at ul243_1; have HL243_1 := Aside0.mk (show Kd.V (Kd.int .i64) 3 _ w.heap.size _ _ ((rd_T49 l0 (ji2)).f1) from Kd.V_mk ul243_1 ge243_1); clear hva_ hvn_ hvc_ ge243_1 ul243_1; clear hcc243 hce243; have HR243_1 := Aside0.mk hi243_1; have HC243_1 := Aside0.mk hl243_1; clear hi243_1 hl243_1; replace p243 := eq_true p243; replace q243 := eq_true q243; have ea_ := Option.some.inj (hx241_1.symm.trans hx243_1); injection ea_ with ea_ en_ ec_; subst ea_; subst ec_; clear en_))
        repeat (go_quiet (first | (go_at_call 84; (with_reducible refine (impl_partsOf.calls k ((rd_T49 l0 (ji2)).f0) t242 _ A5.out).mono ?_); rintro e w' ⟨rfl, ⟨nd, rfl⟩⟩; (try first | exact ⟨rfl, _, World.drewN_drewN _ _ _⟩ | exact ⟨rfl, _, Eq.trans (World.drewN_drewN _ _ _) (congrArg (World.drewN _) (Nat.add_assoc _ _ _))⟩); have p243 : 0 ≤ ((ji2) : Int) := of_decide_eq_true (by first | (with_reducible assumption) | assumption); have q243 : (ji2) < (l0.length : Int) := of_decide_eq_true (by first | (with_reducible assumption) | assumption); obtain ⟨ad243, A243_1, c243_1, e243, hx243_0, hx243_1, hl243_1, hi243_1⟩ := at_T49 (Kd.V_reads' HO0.out).2.2 (ji2) p243 q243; obtain rfl : ad241 = ad243 := (by injection e243); obtain ⟨ce243, hce243, hMe243, hcc243⟩ := Kd.V_get HO0.out z49 (ji2) p243 (by first | exact q243 | exact of_decide_eq_true (by first | (with_reducible assumption) | assumption) | (have e_ := (Kd.V_reads' HO0.out).1; omega)); obtain ⟨ua243_1, uc243_1, rfl, ul243_1, ge243_1⟩ := k49_openF hMe243; have hv243_1 := hcc243 1 _ rfl; rw [add_field _ _ 1 (by omega)] at hv243_1; replace hv243_1 := Option.some.inj (hv243_1.symm.trans hx243_1); injection hv243_1 with hva_ hvn_ hvc_; rw [hva_] at ge243_1; rw [hvc_] at ul243_1; have HL243_1 := Aside0.mk (show Kd.V (Kd.int .i64) 3 _ w.heap.size _ _ ((rd_T49 l0 (ji2)).f1) from Kd.V_mk ul243_1 ge243_1); clear hva_ hvn_ hvc_ ge243_1 ul243_1; clear hcc243 hce243; have HR243_1 := Aside0.mk hi243_1; have HC243_1 := Aside0.mk hl243_1; clear hi243_1 hl243_1; replace p243 := eq_true p243; replace q243 := eq_true q243; have ea_ := Option.some.inj (hx241_1.symm.trans hx243_1); injection ea_ with ea_ en_ ec_; subst ea_; subst ec_; clear en_)); try go_wp2_with (first | (go_at_call 84; (with_reducible refine (impl_partsOf.calls k ((rd_T49 l0 (ji2)).f0) t242 _ A5.out).mono ?_); rintro e w' ⟨rfl, ⟨nd, rfl⟩⟩; (try first | exact ⟨rfl, _, World.drewN_drewN _ _ _⟩ | exact ⟨rfl, _, Eq.trans (World.drewN_drewN _ _ _) (congrArg (World.drewN _) (Nat.add_assoc _ _ _))⟩); have p243 : 0 ≤ ((ji2) : Int) := of_decide_eq_true (by first | (with_reducible assumption) | assumption); have q243 : (ji2) < (l0.length : Int) := of_decide_eq_true (by first | (with_reducible assumption) | assumption); obtain ⟨ad243, A243_1, c243_1, e243, hx243_0, hx243_1, hl243_1, hi243_1⟩ := at_T49 (Kd.V_reads' HO0.out).2.2 (ji2) p243 q243; obtain rfl : ad241 = ad243 := (by injection e243); obtain ⟨ce243, hce243, hMe243, hcc243⟩ := Kd.V_get HO0.out z49 (ji2) p243 (by first | exact q243 | exact of_decide_eq_true (by first | (with_reducible assumption) | assumption) | (have e_ := (Kd.V_reads' HO0.out).1; omega)); obtain ⟨ua243_1, uc243_1, rfl, ul243_1, ge243_1⟩ := k49_openF hMe243; have hv243_1 := hcc243 1 _ rfl; rw [add_field _ _ 1 (by omega)] at hv243_1; replace hv243_1 := Option.some.inj (hv243_1.symm.trans hx243_1); injection hv243_1 with hva_ hvn_ hvc_; rw [hva_] at ge243_1; rw [hvc_] at ul243_1; have HL243_1 := Aside0.mk (show Kd.V (Kd.int .i64) 3 _ w.heap.size _ _ ((rd_T49 l0 (ji2)).f1) from Kd.V_mk ul243_1 ge243_1); clear hva_ hvn_ hvc_ ge243_1 ul243_1; clear hcc243 hce243; have HR243_1 := Aside0.mk hi243_1; have HC243_1 := Aside0.mk hl243_1; clear hi243_1 hl243_1; replace p243 := eq_true p243; replace q243 := eq_true q243; have ea_ := Option.some.inj (hx241_1.symm.trans hx243_1); injection ea_ with ea_ en_ ec_; subst ea_; subst ec_; clear en_)))
        go_ret3
        exact ⟨_, _, by first | rfl | (simp [errW_none, errW_some] <;> rfl) | (simp only [← hji2]; first | rfl | (simp [errW_none, errW_some] <;> rfl)) | (simp [*, errW_none, errW_some] <;> rfl), Kd.V_nil _ _ _ _ _, Kd.V_nil _ _ _ _ _, by repeat (first | (with_reducible first | exact HB.out | apply below_alloc | apply pw_below_drewN | apply below_drew1) | exact HB.out | exact Below.refl _ _)⟩
      · rw [if_neg c6] at H
        have c6b0 : (t242 == 0) = false := beq_eq_false_iff_ne.mpr c6
        have c6b1 : (t242 != 0) = true := bne_iff_ne.mpr c6
        by_cases c7 : t242 = 1
        · rw [if_pos c7] at H
          have c7b0 : (t242 == 1) = true := beq_iff_eq.mpr c7
          have c7b1 : (t242 != 1) = false := bne_eq_false_iff_eq.mpr c7
          clear c7
          have c8b0 := eq_true (of_decide_eq_true (by first | (with_reducible assumption) | assumption) : 0 ≤ (ji2))
          by_cases c9 : (ji2) ≤ (l0.length : Int)
          · rw [if_pos c9] at H
            have c9b0 := eq_true c9
            have c9b1 : decide ((ji2) ≤ (l0.length : Int)) = true := decide_eq_true c9
            clear c9
            obtain ⟨y245, hy245⟩ : ∃ y_ : List (S49), y_ = (l0.take ((ji2) : Int).toNat) := ⟨_, rfl⟩
            replace H : (some ((rd_T49 l0 (ji2)).f0, y245, ([] : List (S49)))) = some (r1, r2, r3) := by first | (rw [hy245]; with_reducible exact H) | (have H2_ := (Option.bind_some _ _).symm.trans H; rw [hy245]; with_reducible exact H2_) | (have H2_ := (Option.bind_some _ _).symm.trans H; with_reducible exact H2_) | with_reducible exact H | (rw [hy245]; exact H) | exact H
            have Ny245 := Aside0.mk hy245
            clear hy245
            simp only [Option.some.injEq, Prod.mk.injEq] at H
            obtain ⟨rfl, rfl, rfl⟩ := H
            have p241 : 0 ≤ ((ji2) : Int) := of_decide_eq_true (by first | (with_reducible assumption) | assumption)
            have q241 : (ji2) < (l0.length : Int) := of_decide_eq_true (by first | (with_reducible assumption) | assumption)
            obtain ⟨ad241, A241_1, c241_1, e241, hx241_0, hx241_1, hl241_1, hi241_1⟩ := at_T49 (Kd.V_reads' HO0.out).2.2 (ji2) p241 q241
            cases e241
            obtain ⟨ce241, hce241, hMe241, hcc241⟩ := Kd.V_get HO0.out z49 (ji2) p241 (by first | exact q241 | exact of_decide_eq_true (by first | (with_reducible assumption) | assumption) | (have e_ := (Kd.V_reads' HO0.out).1; omega))
            obtain ⟨ua241_1, uc241_1, rfl, ul241_1, ge241_1⟩ := k49_openF hMe241
            have hv241_1 := hcc241 1 _ rfl
            rw [add_field _ _ 1 (by omega)] at hv241_1
            replace hv241_1 := Option.some.inj (hv241_1.symm.trans hx241_1)
            injection hv241_1 with hva_ hvn_ hvc_
            rw [hva_] at ge241_1
            rw [hvc_] at ul241_1
            have HL241_1 := Aside0.mk (show Kd.V (Kd.int .i64) 3 _ w.heap.size _ _ ((rd_T49 l0 (ji2)).f1) from Kd.V_mk ul241_1 ge241_1)
            clear hva_ hvn_ hvc_ ge241_1 ul241_1
            clear hcc241 hce241
            have HR241_1 := Aside0.mk hi241_1
            have HC241_1 := Aside0.mk hl241_1
            clear hi241_1 hl241_1
            replace p241 := eq_true p241
            replace q241 := eq_true q241
            go_enter Try.func95, Try.ntmps95
            go_wp2_with (first | (go_at_call 84; (with_reducible refine (impl_partsOf.calls k ((rd_T49 l0 (ji2)).f0) t242 _ A5.out).mono ?_); rintro e w' ⟨rfl, ⟨nd, rfl⟩⟩; (try first | exact ⟨rfl, _, World.drewN_drewN _ _ _⟩ | exact ⟨rfl, _, Eq.trans (World.drewN_drewN _ _ _) (congrArg (World.drewN _) (Nat.add_assoc _ _ _))⟩); have p244 : 0 ≤ ((ji2) : Int) := of_decide_eq_true (by first | (with_reducible assumption) | assumption); have q244 : (ji2) < (l0.length : Int) := of_decide_eq_true (by first | (with_reducible assumption) | assumption); obtain ⟨ad244, A244_1, c244_1, e244, hx244_0, hx244_1, hl244_1, hi244_1⟩ := at_T49 (Kd.V_reads' HO0.out).2.2 (ji2) p244 q244; obtain rfl : ad241 = ad244 := (by injection e244); obtain ⟨ce244, hce244, hMe244, hcc244⟩ := Kd.V_get HO0.out z49 (ji2) p244 (by first | exact q244 | exact of_decide_eq_true (by first | (with_reducible assumption) | assumption) | (have e_ := (Kd.V_reads' HO0.out).1; omega)); obtain ⟨ua244_1, uc244_1, rfl, ul244_1, ge244_1⟩ := k49_openF hMe244; have hv244_1 := hcc244 1 _ rfl; rw [add_field _ _ 1 (by omega)] at hv244_1; replace hv244_1 := Option.some.inj (hv244_1.symm.trans hx244_1); injection hv244_1 with hva_ hvn_ hvc_; rw [hva_] at ge244_1; rw [hvc_] at ul244_1; have HL244_1 := Aside0.mk (show Kd.V (Kd.int .i64) 3 _ w.heap.size _ _ ((rd_T49 l0 (ji2)).f1) from Kd.V_mk ul244_1 ge244_1); clear hva_ hvn_ hvc_ ge244_1 ul244_1; clear hcc244 hce244; have HR244_1 := Aside0.mk hi244_1; have HC244_1 := Aside0.mk hl244_1; clear hi244_1 hl244_1; replace p244 := eq_true p244; replace q244 := eq_true q244; have ea_ := Option.some.inj (hx241_1.symm.trans hx244_1); injection ea_ with ea_ en_ ec_; subst ea_; subst ec_; clear en_; have q10 : ((ji2) : Int) ≤ ((l0.length : Int) : Int) := of_decide_eq_true (by first | (with_reducible assumption) | assumption); obtain ⟨i010, hi010, _, hsz10, _⟩ := info_parts info49; have hroom10 : l0.length ≤ c0 := (Kd.V_reads' HO0.out).2.1; have hC10 : Kd.F k49 _ _ (some ad241) l0.length l0 := (Kd.V_at (base := w.heap.size) HO0.out).2.2; have hcut10 := cut_to (P := Try.prog) 25 49 .i64 Try.underlying25 hi010 (some ad241) l0.length c0 (ji2) (of_decide_eq_true (by first | (with_reducible assumption) | assumption)) q10 hroom10; have hr10 := Kd.F_take (m := ((ji2) : Int).toNat) hC10 (by omega); have hy10 : y245.length = ((ji2) : Int).toNat := (by rw [Ny245.out, List.length_take]; omega); rw [← Ny245.out] at hr10; rw [← hy10] at hcut10; have HO249 := Aside0.mk (show Kd.V k49 49 _ w.heap.size _ (.slice (some ad241) y245.length c0) y245 from Kd.V_mk (by omega) hr10); have HC249 := Aside0.mk (show y245.length ≤ c0 from by omega); clear hr10 hC10 hroom10 hi010 hsz10; have KY10 := Aside0.mk hy10; clear hy10; replace q10 := eq_true q10))
            repeat (go_quiet (first | (go_at_call 84; (with_reducible refine (impl_partsOf.calls k ((rd_T49 l0 (ji2)).f0) t242 _ A5.out).mono ?_); rintro e w' ⟨rfl, ⟨nd, rfl⟩⟩; (try first | exact ⟨rfl, _, World.drewN_drewN _ _ _⟩ | exact ⟨rfl, _, Eq.trans (World.drewN_drewN _ _ _) (congrArg (World.drewN _) (Nat.add_assoc _ _ _))⟩); have p244 : 0 ≤ ((ji2) : Int) := of_decide_eq_true (by first | (with_reducible assumption) | assumption); have q244 : (ji2) < (l0.length : Int) := of_decide_eq_true (by first | (with_reducible assumption) | assumption); obtain ⟨ad244, A244_1, c244_1, e244, hx244_0, hx244_1, hl244_1, hi244_1⟩ := at_T49 (Kd.V_reads' HO0.out).2.2 (ji2) p244 q244; obtain rfl : ad241 = ad244 := (by injection e244); obtain ⟨ce244, hce244, hMe244, hcc244⟩ := Kd.V_get HO0.out z49 (ji2) p244 (by first | exact q244 | exact of_decide_eq_true (by first | (with_reducible assumption) | assumption) | (have e_ := (Kd.V_reads' HO0.out).1; omega)); obtain ⟨ua244_1, uc244_1, rfl, ul244_1, ge244_1⟩ := k49_openF hMe244; have hv244_1 := hcc244 1 _ rfl; rw [add_field _ _ 1 (by omega)] at hv244_1; replace hv244_1 := Option.some.inj (hv244_1.symm.trans hx244_1); injection hv244_1 with hva_ hvn_ hvc_; rw [hva_] at ge244_1; rw [hvc_] at ul244_1; have HL244_1 := Aside0.mk (show Kd.V (Kd.int .i64) 3 _ w.heap.size _ _ ((rd_T49 l0 (ji2)).f1) from Kd.V_mk ul244_1 ge244_1); clear hva_ hvn_ hvc_ ge244_1 ul244_1; clear hcc244 hce244; have HR244_1 := Aside0.mk hi244_1; have HC244_1 := Aside0.mk hl244_1; clear hi244_1 hl244_1; replace p244 := eq_true p244; replace q244 := eq_true q244; have ea_ := Option.some.inj (hx241_1.symm.trans hx244_1); injection ea_ with ea_ en_ ec_; subst ea_; subst ec_; clear en_; have q10 : ((ji2) : Int) ≤ ((l0.length : Int) : Int) := of_decide_eq_true (by first | (with_reducible assumption) | assumption); obtain ⟨i010, hi010, _, hsz10, _⟩ := info_parts info49; have hroom10 : l0.length ≤ c0 := (Kd.V_reads' HO0.out).2.1; have hC10 : Kd.F k49 _ _ (some ad241) l0.length l0 := (Kd.V_at (base := w.heap.size) HO0.out).2.2; have hcut10 := cut_to (P := Try.prog) 25 49 .i64 Try.underlying25 hi010 (some ad241) l0.length c0 (ji2) (of_decide_eq_true (by first | (with_reducible assumption) | assumption)) q10 hroom10; have hr10 := Kd.F_take (m := ((ji2) : Int).toNat) hC10 (by omega); have hy10 : y245.length = ((ji2) : Int).toNat := (by rw [Ny245.out, List.length_take]; omega); rw [← Ny245.out] at hr10; rw [← hy10] at hcut10; have HO249 := Aside0.mk (show Kd.V k49 49 _ w.heap.size _ (.slice (some ad241) y245.length c0) y245 from Kd.V_mk (by omega) hr10); have HC249 := Aside0.mk (show y245.length ≤ c0 from by omega); clear hr10 hC10 hroom10 hi010 hsz10; have KY10 := Aside0.mk hy10; clear hy10; replace q10 := eq_true q10)); try go_wp2_with (first | (go_at_call 84; (with_reducible refine (impl_partsOf.calls k ((rd_T49 l0 (ji2)).f0) t242 _ A5.out).mono ?_); rintro e w' ⟨rfl, ⟨nd, rfl⟩⟩; (try first | exact ⟨rfl, _, World.drewN_drewN _ _ _⟩ | exact ⟨rfl, _, Eq.trans (World.drewN_drewN _ _ _) (congrArg (World.drewN _) (Nat.add_assoc _ _ _))⟩); have p244 : 0 ≤ ((ji2) : Int) := of_decide_eq_true (by first | (with_reducible assumption) | assumption); have q244 : (ji2) < (l0.length : Int) := of_decide_eq_true (by first | (with_reducible assumption) | assumption); obtain ⟨ad244, A244_1, c244_1, e244, hx244_0, hx244_1, hl244_1, hi244_1⟩ := at_T49 (Kd.V_reads' HO0.out).2.2 (ji2) p244 q244; obtain rfl : ad241 = ad244 := (by injection e244); obtain ⟨ce244, hce244, hMe244, hcc244⟩ := Kd.V_get HO0.out z49 (ji2) p244 (by first | exact q244 | exact of_decide_eq_true (by first | (with_reducible assumption) | assumption) | (have e_ := (Kd.V_reads' HO0.out).1; omega)); obtain ⟨ua244_1, uc244_1, rfl, ul244_1, ge244_1⟩ := k49_openF hMe244; have hv244_1 := hcc244 1 _ rfl; rw [add_field _ _ 1 (by omega)] at hv244_1; replace hv244_1 := Option.some.inj (hv244_1.symm.trans hx244_1); injection hv244_1 with hva_ hvn_ hvc_; rw [hva_] at ge244_1; rw [hvc_] at ul244_1; have HL244_1 := Aside0.mk (show Kd.V (Kd.int .i64) 3 _ w.heap.size _ _ ((rd_T49 l0 (ji2)).f1) from Kd.V_mk ul244_1 ge244_1); clear hva_ hvn_ hvc_ ge244_1 ul244_1; clear hcc244 hce244; have HR244_1 := Aside0.mk hi244_1; have HC244_1 := Aside0.mk hl244_1; clear hi244_1 hl244_1; replace p244 := eq_true p244; replace q244 := eq_true q244; have ea_ := Option.some.inj (hx241_1.symm.trans hx244_1); injection ea_ with ea_ en_ ec_; subst ea_; subst ec_; clear en_; have q10 : ((ji2) : Int) ≤ ((l0.length : Int) : Int) := of_decide_eq_true (by first | (with_reducible assumption) | assumption); obtain ⟨i010, hi010, _, hsz10, _⟩ := info_parts info49; have hroom10 : l0.length ≤ c0 := (Kd.V_reads' HO0.out).2.1; have hC10 : Kd.F k49 _ _ (some ad241) l0.length l0 := (Kd.V_at (base := w.heap.size) HO0.out).2.2; have hcut10 := cut_to (P := Try.prog) 25 49 .i64 Try.underlying25 hi010 (some ad241) l0.length c0 (ji2) (of_decide_eq_true (by first | (with_reducible assumption) | assumption)) q10 hroom10; have hr10 := Kd.F_take (m := ((ji2) : Int).toNat) hC10 (by omega); have hy10 : y245.length = ((ji2) : Int).toNat := (by rw [Ny245.out, List.length_take]; omega); rw [← Ny245.out] at hr10; rw [← hy10] at hcut10; have HO249 := Aside0.mk (show Kd.V k49 49 _ w.heap.size _ (.slice (some ad241) y245.length c0) y245 from Kd.V_mk (by omega) hr10); have HC249 := Aside0.mk (show y245.length ≤ c0 from by omega); clear hr10 hC10 hroom10 hi010 hsz10; have KY10 := Aside0.mk hy10; clear hy10; replace q10 := eq_true q10)))
            go_ret3
            exact ⟨_, _, by first | rfl | (simp [errW_none, errW_some] <;> rfl) | (simp only [← hji2]; first | rfl | (simp [errW_none, errW_some] <;> rfl)) | (simp [*, errW_none, errW_some] <;> rfl), by (with_reducible repeat (first | apply Kd.V_alloc | apply Kd.V_drewN | apply Kd.V_drew)); exact HO249.out, Kd.V_nil _ _ _ _ _, by repeat (first | (with_reducible first | exact HB.out | apply below_alloc | apply pw_below_drewN | apply below_drew1) | exact HB.out | exact Below.refl _ _)⟩
          · rw [if_neg c9] at H
            exact absurd H (by simp)
        · rw [if_neg c7] at H
          have c7b0 : (t242 == 1) = false := beq_eq_false_iff_ne.mpr c7
          have c7b1 : (t242 != 1) = true := bne_iff_ne.mpr c7
          replace H := Option.bind_eq_some_iff.mp H
          obtain ⟨⟨t250, t251⟩, A110, H⟩ := H
          replace H : (if (ji2) < (t250.length : Int) then (if 0 < ((rd_L1 t250 (ji2)).length : Int) then (if 0 ≤ (wrap64 ((rd (rd_L1 t250 (ji2)) 0) + 1)) then (if (wrap64 ((rd (rd_L1 t250 (ji2)) 0) + 1)) ≤ (l0.length : Int) then (if (wrap64 ((rd (rd_L1 t250 (ji2)) 0) + 1)) ≤ (ji2) then (if (ji2) ≤ (l0.length : Int) then (some ((rd_T49 l0 (ji2)).f0, (l0.take ((wrap64 ((rd (rd_L1 t250 (ji2)) 0) + 1)) : Int).toNat), ((l0.take ((ji2) : Int).toNat).drop ((wrap64 ((rd (rd_L1 t250 (ji2)) 0) + 1)) : Int).toNat))) else (none)) else (none)) else (none)) else (none)) else (none)) else (none)) = some (r1, r2, r3) := H
          have A11 := Aside0.mk A110
          clear A110
          by_cases c12 : (ji2) < (t250.length : Int)
          · rw [if_pos c12] at H
            have c12b0 : decide ((ji2) < (t250.length : Int)) = true := decide_eq_true c12
            clear c12
            by_cases c13 : 0 < ((rd_L1 t250 (ji2)).length : Int)
            · rw [if_pos c13] at H
              have c13b0 : decide (0 < ((rd_L1 t250 (ji2)).length : Int)) = true := decide_eq_true c13
              have c13b1 : decide (0 < (rd_L1 t250 (ji2)).length) = true := decide_eq_true (by omega)
              clear c13
              obtain ⟨ji14, hji14⟩ : ∃ j_ : Int, (wrap64 ((rd (rd_L1 t250 (ji2)) 0) + 1)) = j_ := ⟨_, rfl⟩
              replace H : (if 0 ≤ (ji14) then (if (ji14) ≤ (l0.length : Int) then (if (ji14) ≤ (ji2) then (if (ji2) ≤ (l0.length : Int) then (some ((rd_T49 l0 (ji2)).f0, (l0.take ((ji14) : Int).toNat), ((l0.take ((ji2) : Int).toNat).drop ((ji14) : Int).toNat))) else (none)) else (none)) else (none)) else (none)) = some (r1, r2, r3) := by first | (rw [hji14] at H; exact H) | (simp only [hji14] at H ⊢; exact H)
              (try rw [hji14] at A5)
              (try rw [hji14] at A11)
              have hji14w : (IntKind.i64.wrap ((rd (rd_L1 t250 (ji2)) 0) + 1)) = ji14 := (i64_w _).trans hji14
              by_cases c15 : 0 ≤ (ji14)
              · rw [if_pos c15] at H
                have c15b0 := eq_true c15
                have c15b1 : decide (0 ≤ (ji14)) = true := decide_eq_true c15
                clear c15
                by_cases c16 : (ji14) ≤ (l0.length : Int)
                · rw [if_pos c16] at H
                  have c16b0 := eq_true c16
                  have c16b1 : decide ((ji14) ≤ (l0.length : Int)) = true := decide_eq_true c16
                  clear c16
                  obtain ⟨y257, hy257⟩ : ∃ y_ : List (S49), y_ = (l0.take ((ji14) : Int).toNat) := ⟨_, rfl⟩
                  replace H : (if (ji14) ≤ (ji2) then (if (ji2) ≤ (l0.length : Int) then (some ((rd_T49 l0 (ji2)).f0, y257, ((l0.take ((ji2) : Int).toNat).drop ((ji14) : Int).toNat))) else (none)) else (none)) = some (r1, r2, r3) := by first | (rw [hy257]; with_reducible exact H) | (have H2_ := (Option.bind_some _ _).symm.trans H; rw [hy257]; with_reducible exact H2_) | (have H2_ := (Option.bind_some _ _).symm.trans H; with_reducible exact H2_) | with_reducible exact H | (rw [hy257]; exact H) | exact H
                  have Ny257 := Aside0.mk hy257
                  clear hy257
                  have c17b0 := eq_true (of_decide_eq_true (by first | (with_reducible assumption) | assumption) : 0 ≤ (ji14))
                  by_cases c18 : (ji14) ≤ (ji2)
                  · rw [if_pos c18] at H
                    have c18b0 := eq_true c18
                    have c18b1 : decide ((ji14) ≤ (ji2)) = true := decide_eq_true c18
                    clear c18
                    by_cases c19 : (ji2) ≤ (l0.length : Int)
                    · rw [if_pos c19] at H
                      have c19b0 := eq_true c19
                      have c19b1 : decide ((ji2) ≤ (l0.length : Int)) = true := decide_eq_true c19
                      clear c19
                      obtain ⟨y262, hy262⟩ : ∃ y_ : List (S49), y_ = ((l0.take ((ji2) : Int).toNat).drop ((ji14) : Int).toNat) := ⟨_, rfl⟩
                      replace H : (some ((rd_T49 l0 (ji2)).f0, y257, y262)) = some (r1, r2, r3) := by first | (rw [hy262]; with_reducible exact H) | (have H2_ := (Option.bind_some _ _).symm.trans H; rw [hy262]; with_reducible exact H2_) | (have H2_ := (Option.bind_some _ _).symm.trans H; with_reducible exact H2_) | with_reducible exact H | (rw [hy262]; exact H) | exact H
                      have Ny262 := Aside0.mk hy262
                      clear hy262
                      simp only [Option.some.injEq, Prod.mk.injEq] at H
                      obtain ⟨rfl, rfl, rfl⟩ := H
                      have p241 : 0 ≤ ((ji2) : Int) := of_decide_eq_true (by first | (with_reducible assumption) | assumption)
                      have q241 : (ji2) < (l0.length : Int) := of_decide_eq_true (by first | (with_reducible assumption) | assumption)
                      obtain ⟨ad241, A241_1, c241_1, e241, hx241_0, hx241_1, hl241_1, hi241_1⟩ := at_T49 (Kd.V_reads' HO0.out).2.2 (ji2) p241 q241
                      cases e241
                      obtain ⟨ce241, hce241, hMe241, hcc241⟩ := Kd.V_get HO0.out z49 (ji2) p241 (by first | exact q241 | exact of_decide_eq_true (by first | (with_reducible assumption) | assumption) | (have e_ := (Kd.V_reads' HO0.out).1; omega))
                      obtain ⟨ua241_1, uc241_1, rfl, ul241_1, ge241_1⟩ := k49_openF hMe241
                      have hv241_1 := hcc241 1 _ rfl
                      rw [add_field _ _ 1 (by omega)] at hv241_1
                      replace hv241_1 := Option.some.inj (hv241_1.symm.trans hx241_1)
                      injection hv241_1 with hva_ hvn_ hvc_
                      rw [hva_] at ge241_1
                      rw [hvc_] at ul241_1
                      have HL241_1 := Aside0.mk (show Kd.V (Kd.int .i64) 3 _ w.heap.size _ _ ((rd_T49 l0 (ji2)).f1) from Kd.V_mk ul241_1 ge241_1)
                      clear hva_ hvn_ hvc_ ge241_1 ul241_1
                      clear hcc241 hce241
                      have HR241_1 := Aside0.mk hi241_1
                      have HC241_1 := Aside0.mk hl241_1
                      clear hi241_1 hl241_1
                      replace p241 := eq_true p241
                      replace q241 := eq_true q241
                      go_enter Try.func95, Try.ntmps95
                      go_wp2_with (first | (go_at_call 84; (with_reducible refine (impl_partsOf.calls k ((rd_T49 l0 (ji2)).f0) t242 _ A5.out).mono ?_); rintro e w' ⟨rfl, ⟨nd, rfl⟩⟩; (try first | exact ⟨rfl, _, World.drewN_drewN _ _ _⟩ | exact ⟨rfl, _, Eq.trans (World.drewN_drewN _ _ _) (congrArg (World.drewN _) (Nat.add_assoc _ _ _))⟩)) | (go_at_call 51; (with_reducible refine (impl_parts.calls k _ _ l0 t250 t251 _ ?side1 ?side2 A11.out).mono ?_); (case side1 => repeat (first | exact (Kd.V_reads' HO0.out).2.2 | (with_reducible refine Kd.C_alloc ?_ _) | (with_reducible refine Kd.C_drewN ?_ _) | (with_reducible refine Kd.C_drew ?_))); (case side2 => exact (Kd.V_reads' HO0.out).2.1); rintro e w20 ⟨v252, rfl, ho0, hb⟩; have n0_ := Aside0.mk (Kd.V_elder' (by (with_reducible repeat (first | apply Kd.V_alloc | apply Kd.V_drewN | apply Kd.V_drew)); exact HO0.out) (Kd.S_base ho0) hb); have n1_ := Aside0.mk (Kd.V_elder' (by (with_reducible repeat (first | apply Kd.V_alloc | apply Kd.V_drewN | apply Kd.V_drew)); exact HL241_1.out) (Kd.S_base ho0) hb); have n2_ := Aside0.mk (Kd.S_lower (Kd.S_newM (M := fun k_ => (w.heap.size ≤ k_)) ho0 (below_size (by repeat (first | (with_reducible first | exact HB.out | apply below_alloc | apply pw_below_drewN | apply below_drew1) | exact HB.out | exact Below.refl _ _))) (fun k_ h_ => h_)) (below_size (by repeat (first | (with_reducible first | exact HB.out | apply below_alloc | apply pw_below_drewN | apply below_drew1) | exact HB.out | exact Below.refl _ _)))); have n3_ := Aside0.mk (Kd.C_below (by repeat (first | (with_reducible exact HR241_1.out) | (with_reducible refine Kd.C_alloc ?_ _) | (with_reducible refine Kd.C_drewN ?_ _) | (with_reducible refine Kd.C_drew ?_) | exact HR241_1.out)) hb); have n4_ := Aside0.mk (below_step (by repeat (first | (with_reducible first | exact HB.out | apply below_alloc | apply pw_below_drewN | apply below_drew1) | exact HB.out | exact Below.refl _ _)) hb); clear HO0; clear HL241_1; clear HR241_1; clear HB; have HO0 := n0_; have HL241_1 := n1_; have HO253 := n2_; have HR241_1 := n3_; have HB := n4_; clear n0_ n1_ n2_ n3_ n4_; (try clear hb); (try clear hb2); (try clear hk); (try clear hi); (try clear ho0); obtain ⟨Ao21, co21, eo21⟩ := Kd.S_slice HO253.out; subst eo21; have p254 : 0 ≤ ((ji2) : Int) := of_decide_eq_true (by first | (with_reducible assumption) | assumption); have q254 : (ji2) < (t250.length : Int) := of_decide_eq_true (by first | (with_reducible assumption) | assumption); obtain ⟨ad254, A254_0, c254_0, e254, hx254_0, hl254_0, hi254_0⟩ := at_L1 (Kd.S_reads' HO253.out).2.2 (ji2) p254 q254; cases e254; obtain ⟨ce254, hce254, hMe254, hcc254⟩ := Kd.S_get HO253.out [] (ji2) p254 (by first | exact q254 | exact of_decide_eq_true (by first | (with_reducible assumption) | assumption) | (have e_ := (Kd.S_reads' HO253.out).1; omega)); obtain ⟨ve254_0, rfl, ge254_0⟩ := hMe254; have hv254_0 := hcc254 0 _ rfl; rw [Nat.add_zero, show ((Kd.slice 3 (Kd.int .i64))).sz = 1 from rfl, Nat.mul_one] at hv254_0; replace hv254_0 := Option.some.inj (hv254_0.symm.trans hx254_0); rw [hv254_0] at ge254_0; have HL254_0 := Aside0.mk (show Kd.R (Kd.int .i64) 3 _ _ _ _ (rd_L1 t250 (ji2)) from ge254_0); clear hv254_0 ge254_0; clear hcc254 hce254; have HR254_0 := Aside0.mk hi254_0; have HC254_0 := Aside0.mk hl254_0; clear hi254_0 hl254_0; replace p254 := eq_true p254; replace q254 := eq_true q254; have p255 : 0 ≤ (0 : Int) := (by omega); have q255 : 0 < ((rd_L1 t250 (ji2)).length : Int) := of_decide_eq_true (by first | (with_reducible assumption) | assumption); obtain ⟨ad255, e255, hx255_0⟩ := Kd.at_int (by repeat (first | (with_reducible exact HR254_0.out) | (with_reducible refine Kd.C_alloc ?_ _) | (with_reducible refine Kd.C_drewN ?_ _) | (with_reducible refine Kd.C_drew ?_) | exact HR254_0.out)) 0 p255 q255; cases e255; have qi255 : (0 < (rd_L1 t250 (ji2)).length) = True := eq_true (by omega); (try rw [show ((0 : Int)).toNat = 0 from rfl] at hx255_0); (try rw [Addr.add_zero'] at hx255_0); replace p255 := eq_true p255; replace q255 := eq_true q255; have p256 : 0 ≤ ((ji2) : Int) := of_decide_eq_true (by first | (with_reducible assumption) | assumption); have q256 : (ji2) < (l0.length : Int) := of_decide_eq_true (by first | (with_reducible assumption) | assumption); obtain ⟨ad256, A256_1, c256_1, e256, hx256_0, hx256_1, hl256_1, hi256_1⟩ := at_T49 (Kd.V_reads' HO0.out).2.2 (ji2) p256 q256; obtain rfl : ad241 = ad256 := (by injection e256); obtain ⟨ce256, hce256, hMe256, hcc256⟩ := Kd.V_get HO0.out z49 (ji2) p256 (by first | exact q256 | exact of_decide_eq_true (by first | (with_reducible assumption) | assumption) | (have e_ := (Kd.V_reads' HO0.out).1; omega)); obtain ⟨ua256_1, uc256_1, rfl, ul256_1, ge256_1⟩ := k49_openF hMe256; have hv256_1 := hcc256 1 _ rfl; rw [add_field _ _ 1 (by omega)] at hv256_1; replace hv256_1 := Option.some.inj (hv256_1.symm.trans hx256_1); injection hv256_1 with hva_ hvn_ hvc_; rw [hva_] at ge256_1; rw [hvc_] at ul256_1; have HL256_1 := Aside0.mk (show Kd.V (Kd.int .i64) 3 _ w.heap.size _ _ ((rd_T49 l0 (ji2)).f1) from Kd.V_mk ul256_1 ge256_1); clear hva_ hvn_ hvc_ ge256_1 ul256_1; clear hcc256 hce256; have HR256_1 := Aside0.mk hi256_1; have HC256_1 := Aside0.mk hl256_1; clear hi256_1 hl256_1; replace p256 := eq_true p256; replace q256 := eq_true q256; have q22 : ((ji14) : Int) ≤ ((l0.length : Int) : Int) := of_decide_eq_true (by first | (with_reducible assumption) | assumption); obtain ⟨i022, hi022, _, hsz22, _⟩ := info_parts info49; have hroom22 : l0.length ≤ c0 := (Kd.V_reads' HO0.out).2.1; have hC22 : Kd.F k49 _ _ (some ad241) l0.length l0 := (Kd.V_at (base := w.heap.size) HO0.out).2.2; have hcut22 := cut_to (P := Try.prog) 25 49 .i64 Try.underlying25 hi022 (some ad241) l0.length c0 (ji14) (of_decide_eq_true (by first | (with_reducible assumption) | assumption)) q22 hroom22; have hr22 := Kd.F_take (m := ((ji14) : Int).toNat) hC22 (by omega); have hy22 : y257.length = ((ji14) : Int).toNat := (by rw [Ny257.out, List.length_take]; omega); rw [← Ny257.out] at hr22; rw [← hy22] at hcut22; have HO261 := Aside0.mk (show Kd.V k49 49 _ w.heap.size _ (.slice (some ad241) y257.length c0) y257 from Kd.V_mk (by omega) hr22); have HC261 := Aside0.mk (show y257.length ≤ c0 from by omega); clear hr22 hC22 hroom22 hi022 hsz22; have KY22 := Aside0.mk hy22; clear hy22; replace q22 := eq_true q22; have q23 : ((ji2) : Int) ≤ ((l0.length : Int) : Int) := of_decide_eq_true (by first | (with_reducible assumption) | assumption); obtain ⟨i023, hi023, _, hsz23, _⟩ := info_parts info49; have hroom23 : l0.length ≤ c0 := (Kd.V_reads' HO0.out).2.1; have hC23 : Kd.F k49 _ _ (some ad241) l0.length l0 := (Kd.V_at (base := w.heap.size) HO0.out).2.2; have ql23 : ((ji14) : Int) ≤ ((ji2) : Int) := of_decide_eq_true (by first | (with_reducible assumption) | assumption); have q023 : (0 : Int) ≤ ((ji14) : Int) := of_decide_eq_true (by first | (with_reducible assumption) | assumption); have hcut23 := cut_mid (P := Try.prog) 25 49 .i64 .i64 Try.underlying25 hi023 2 hsz23 (some ad241) l0.length c0 (ji14) (ji2) q023 ql23 q23 hroom23; have hr23 := Kd.F_mid (lo := ((ji14) : Int).toNat) (hi := ((ji2) : Int).toNat) (c := c0) hC23 (by omega) (by omega) hroom23; obtain ⟨A23, hA23⟩ : ∃ A1, A1 = (if c0 = ((ji14) : Int).toNat then (some ad241) else ((some ad241) : Option Addr).map (·.add (((ji14) : Int).toNat * 2))) := ⟨_, rfl⟩; obtain ⟨c23, hc23⟩ : ∃ c1, c1 = c0 - ((ji14) : Int).toNat := ⟨_, rfl⟩; have hy23 : y262.length = ((ji2) : Int).toNat - ((ji14) : Int).toNat := (by rw [Ny262.out, List.length_drop, List.length_take] <;> omega); rw [show ((l0).take ((ji2) : Int).toNat).drop ((ji14) : Int).toNat = y262 from Ny262.out.symm] at hr23; replace hr23 : Kd.F k49 _ _ A23 y262.length y262 := (by rw [hA23]; exact hr23); rw [← hy23, ← hA23, ← hc23] at hcut23; have HO266 := Aside0.mk (show Kd.V k49 49 _ w.heap.size _ (.slice A23 y262.length c23) y262 from Kd.V_mk (by rw [hy23, hc23]; exact Nat.sub_le_sub_right (Nat.le_trans (by omega) hroom23) _) hr23); have HC266 := Aside0.mk (show y262.length ≤ c23 from by rw [hy23, hc23]; exact Nat.sub_le_sub_right (Nat.le_trans (by omega) hroom23) _); clear hr23 hC23 hroom23 hi023 hsz23 hc23; have KY23 := Aside0.mk hy23; have KA23 := Aside0.mk hA23; clear hy23 hA23; replace q23 := eq_true q23))
                      repeat (go_quiet (first | (go_at_call 84; (with_reducible refine (impl_partsOf.calls k ((rd_T49 l0 (ji2)).f0) t242 _ A5.out).mono ?_); rintro e w' ⟨rfl, ⟨nd, rfl⟩⟩; (try first | exact ⟨rfl, _, World.drewN_drewN _ _ _⟩ | exact ⟨rfl, _, Eq.trans (World.drewN_drewN _ _ _) (congrArg (World.drewN _) (Nat.add_assoc _ _ _))⟩)) | (go_at_call 51; (with_reducible refine (impl_parts.calls k _ _ l0 t250 t251 _ ?side1 ?side2 A11.out).mono ?_); (case side1 => repeat (first | exact (Kd.V_reads' HO0.out).2.2 | (with_reducible refine Kd.C_alloc ?_ _) | (with_reducible refine Kd.C_drewN ?_ _) | (with_reducible refine Kd.C_drew ?_))); (case side2 => exact (Kd.V_reads' HO0.out).2.1); rintro e w20 ⟨v252, rfl, ho0, hb⟩; have n0_ := Aside0.mk (Kd.V_elder' (by (with_reducible repeat (first | apply Kd.V_alloc | apply Kd.V_drewN | apply Kd.V_drew)); exact HO0.out) (Kd.S_base ho0) hb); have n1_ := Aside0.mk (Kd.V_elder' (by (with_reducible repeat (first | apply Kd.V_alloc | apply Kd.V_drewN | apply Kd.V_drew)); exact HL241_1.out) (Kd.S_base ho0) hb); have n2_ := Aside0.mk (Kd.S_lower (Kd.S_newM (M := fun k_ => (w.heap.size ≤ k_)) ho0 (below_size (by repeat (first | (with_reducible first | exact HB.out | apply below_alloc | apply pw_below_drewN | apply below_drew1) | exact HB.out | exact Below.refl _ _))) (fun k_ h_ => h_)) (below_size (by repeat (first | (with_reducible first | exact HB.out | apply below_alloc | apply pw_below_drewN | apply below_drew1) | exact HB.out | exact Below.refl _ _)))); have n3_ := Aside0.mk (Kd.C_below (by repeat (first | (with_reducible exact HR241_1.out) | (with_reducible refine Kd.C_alloc ?_ _) | (with_reducible refine Kd.C_drewN ?_ _) | (with_reducible refine Kd.C_drew ?_) | exact HR241_1.out)) hb); have n4_ := Aside0.mk (below_step (by repeat (first | (with_reducible first | exact HB.out | apply below_alloc | apply pw_below_drewN | apply below_drew1) | exact HB.out | exact Below.refl _ _)) hb); clear HO0; clear HL241_1; clear HR241_1; clear HB; have HO0 := n0_; have HL241_1 := n1_; have HO253 := n2_; have HR241_1 := n3_; have HB := n4_; clear n0_ n1_ n2_ n3_ n4_; (try clear hb); (try clear hb2); (try clear hk); (try clear hi); (try clear ho0); obtain ⟨Ao21, co21, eo21⟩ := Kd.S_slice HO253.out; subst eo21; have p254 : 0 ≤ ((ji2) : Int) := of_decide_eq_true (by first | (with_reducible assumption) | assumption); have q254 : (ji2) < (t250.length : Int) := of_decide_eq_true (by first | (with_reducible assumption) | assumption); obtain ⟨ad254, A254_0, c254_0, e254, hx254_0, hl254_0, hi254_0⟩ := at_L1 (Kd.S_reads' HO253.out).2.2 (ji2) p254 q254; cases e254; obtain ⟨ce254, hce254, hMe254, hcc254⟩ := Kd.S_get HO253.out [] (ji2) p254 (by first | exact q254 | exact of_decide_eq_true (by first | (with_reducible assumption) | assumption) | (have e_ := (Kd.S_reads' HO253.out).1; omega)); obtain ⟨ve254_0, rfl, ge254_0⟩ := hMe254; have hv254_0 := hcc254 0 _ rfl; rw [Nat.add_zero, show ((Kd.slice 3 (Kd.int .i64))).sz = 1 from rfl, Nat.mul_one] at hv254_0; replace hv254_0 := Option.some.inj (hv254_0.symm.trans hx254_0); rw [hv254_0] at ge254_0; have HL254_0 := Aside0.mk (show Kd.R (Kd.int .i64) 3 _ _ _ _ (rd_L1 t250 (ji2)) from ge254_0); clear hv254_0 ge254_0; clear hcc254 hce254; have HR254_0 := Aside0.mk hi254_0; have HC254_0 := Aside0.mk hl254_0; clear hi254_0 hl254_0; replace p254 := eq_true p254; replace q254 := eq_true q254; have p255 : 0 ≤ (0 : Int) := (by omega); have q255 : 0 < ((rd_L1 t250 (ji2)).length : Int) := of_decide_eq_true (by first | (with_reducible assumption) | assumption); obtain ⟨ad255, e255, hx255_0⟩ := Kd.at_int (by repeat (first | (with_reducible exact HR254_0.out) | (with_reducible refine Kd.C_alloc ?_ _) | (with_reducible refine Kd.C_drewN ?_ _) | (with_reducible refine Kd.C_drew ?_) | exact HR254_0.out)) 0 p255 q255; cases e255; have qi255 : (0 < (rd_L1 t250 (ji2)).length) = True := eq_true (by omega); (try rw [show ((0 : Int)).toNat = 0 from rfl] at hx255_0); (try rw [Addr.add_zero'] at hx255_0); replace p255 := eq_true p255; replace q255 := eq_true q255; have p256 : 0 ≤ ((ji2) : Int) := of_decide_eq_true (by first | (with_reducible assumption) | assumption); have q256 : (ji2) < (l0.length : Int) := of_decide_eq_true (by first | (with_reducible assumption) | assumption); obtain ⟨ad256, A256_1, c256_1, e256, hx256_0, hx256_1, hl256_1, hi256_1⟩ := at_T49 (Kd.V_reads' HO0.out).2.2 (ji2) p256 q256; obtain rfl : ad241 = ad256 := (by injection e256); obtain ⟨ce256, hce256, hMe256, hcc256⟩ := Kd.V_get HO0.out z49 (ji2) p256 (by first | exact q256 | exact of_decide_eq_true (by first | (with_reducible assumption) | assumption) | (have e_ := (Kd.V_reads' HO0.out).1; omega)); obtain ⟨ua256_1, uc256_1, rfl, ul256_1, ge256_1⟩ := k49_openF hMe256; have hv256_1 := hcc256 1 _ rfl; rw [add_field _ _ 1 (by omega)] at hv256_1; replace hv256_1 := Option.some.inj (hv256_1.symm.trans hx256_1); injection hv256_1 with hva_ hvn_ hvc_; rw [hva_] at ge256_1; rw [hvc_] at ul256_1; have HL256_1 := Aside0.mk (show Kd.V (Kd.int .i64) 3 _ w.heap.size _ _ ((rd_T49 l0 (ji2)).f1) from Kd.V_mk ul256_1 ge256_1); clear hva_ hvn_ hvc_ ge256_1 ul256_1; clear hcc256 hce256; have HR256_1 := Aside0.mk hi256_1; have HC256_1 := Aside0.mk hl256_1; clear hi256_1 hl256_1; replace p256 := eq_true p256; replace q256 := eq_true q256; have q22 : ((ji14) : Int) ≤ ((l0.length : Int) : Int) := of_decide_eq_true (by first | (with_reducible assumption) | assumption); obtain ⟨i022, hi022, _, hsz22, _⟩ := info_parts info49; have hroom22 : l0.length ≤ c0 := (Kd.V_reads' HO0.out).2.1; have hC22 : Kd.F k49 _ _ (some ad241) l0.length l0 := (Kd.V_at (base := w.heap.size) HO0.out).2.2; have hcut22 := cut_to (P := Try.prog) 25 49 .i64 Try.underlying25 hi022 (some ad241) l0.length c0 (ji14) (of_decide_eq_true (by first | (with_reducible assumption) | assumption)) q22 hroom22; have hr22 := Kd.F_take (m := ((ji14) : Int).toNat) hC22 (by omega); have hy22 : y257.length = ((ji14) : Int).toNat := (by rw [Ny257.out, List.length_take]; omega); rw [← Ny257.out] at hr22; rw [← hy22] at hcut22; have HO261 := Aside0.mk (show Kd.V k49 49 _ w.heap.size _ (.slice (some ad241) y257.length c0) y257 from Kd.V_mk (by omega) hr22); have HC261 := Aside0.mk (show y257.length ≤ c0 from by omega); clear hr22 hC22 hroom22 hi022 hsz22; have KY22 := Aside0.mk hy22; clear hy22; replace q22 := eq_true q22; have q23 : ((ji2) : Int) ≤ ((l0.length : Int) : Int) := of_decide_eq_true (by first | (with_reducible assumption) | assumption); obtain ⟨i023, hi023, _, hsz23, _⟩ := info_parts info49; have hroom23 : l0.length ≤ c0 := (Kd.V_reads' HO0.out).2.1; have hC23 : Kd.F k49 _ _ (some ad241) l0.length l0 := (Kd.V_at (base := w.heap.size) HO0.out).2.2; have ql23 : ((ji14) : Int) ≤ ((ji2) : Int) := of_decide_eq_true (by first | (with_reducible assumption) | assumption); have q023 : (0 : Int) ≤ ((ji14) : Int) := of_decide_eq_true (by first | (with_reducible assumption) | assumption); have hcut23 := cut_mid (P := Try.prog) 25 49 .i64 .i64 Try.underlying25 hi023 2 hsz23 (some ad241) l0.length c0 (ji14) (ji2) q023 ql23 q23 hroom23; have hr23 := Kd.F_mid (lo := ((ji14) : Int).toNat) (hi := ((ji2) : Int).toNat) (c := c0) hC23 (by omega) (by omega) hroom23; obtain ⟨A23, hA23⟩ : ∃ A1, A1 = (if c0 = ((ji14) : Int).toNat then (some ad241) else ((some ad241) : Option Addr).map (·.add (((ji14) : Int).toNat * 2))) := ⟨_, rfl⟩; obtain ⟨c23, hc23⟩ : ∃ c1, c1 = c0 - ((ji14) : Int).toNat := ⟨_, rfl⟩; have hy23 : y262.length = ((ji2) : Int).toNat - ((ji14) : Int).toNat := (by rw [Ny262.out, List.length_drop, List.length_take] <;> omega); rw [show ((l0).take ((ji2) : Int).toNat).drop ((ji14) : Int).toNat = y262 from Ny262.out.symm] at hr23; replace hr23 : Kd.F k49 _ _ A23 y262.length y262 := (by rw [hA23]; exact hr23); rw [← hy23, ← hA23, ← hc23] at hcut23; have HO266 := Aside0.mk (show Kd.V k49 49 _ w.heap.size _ (.slice A23 y262.length c23) y262 from Kd.V_mk (by rw [hy23, hc23]; exact Nat.sub_le_sub_right (Nat.le_trans (by omega) hroom23) _) hr23); have HC266 := Aside0.mk (show y262.length ≤ c23 from by rw [hy23, hc23]; exact Nat.sub_le_sub_right (Nat.le_trans (by omega) hroom23) _); clear hr23 hC23 hroom23 hi023 hsz23 hc23; have KY23 := Aside0.mk hy23; have KA23 := Aside0.mk hA23; clear hy23 hA23; replace q23 := eq_true q23)); try go_wp2_with (first | (go_at_call 84; (with_reducible refine (impl_partsOf.calls k ((rd_T49 l0 (ji2)).f0) t242 _ A5.out).mono ?_); rintro e w' ⟨rfl, ⟨nd, rfl⟩⟩; (try first | exact ⟨rfl, _, World.drewN_drewN _ _ _⟩ | exact ⟨rfl, _, Eq.trans (World.drewN_drewN _ _ _) (congrArg (World.drewN _) (Nat.add_assoc _ _ _))⟩)) | (go_at_call 51; (with_reducible refine (impl_parts.calls k _ _ l0 t250 t251 _ ?side1 ?side2 A11.out).mono ?_); (case side1 => repeat (first | exact (Kd.V_reads' HO0.out).2.2 | (with_reducible refine Kd.C_alloc ?_ _) | (with_reducible refine Kd.C_drewN ?_ _) | (with_reducible refine Kd.C_drew ?_))); (case side2 => exact (Kd.V_reads' HO0.out).2.1); rintro e w20 ⟨v252, rfl, ho0, hb⟩; have n0_ := Aside0.mk (Kd.V_elder' (by (with_reducible repeat (first | apply Kd.V_alloc | apply Kd.V_drewN | apply Kd.V_drew)); exact HO0.out) (Kd.S_base ho0) hb); have n1_ := Aside0.mk (Kd.V_elder' (by (with_reducible repeat (first | apply Kd.V_alloc | apply Kd.V_drewN | apply Kd.V_drew)); exact HL241_1.out) (Kd.S_base ho0) hb); have n2_ := Aside0.mk (Kd.S_lower (Kd.S_newM (M := fun k_ => (w.heap.size ≤ k_)) ho0 (below_size (by repeat (first | (with_reducible first | exact HB.out | apply below_alloc | apply pw_below_drewN | apply below_drew1) | exact HB.out | exact Below.refl _ _))) (fun k_ h_ => h_)) (below_size (by repeat (first | (with_reducible first | exact HB.out | apply below_alloc | apply pw_below_drewN | apply below_drew1) | exact HB.out | exact Below.refl _ _)))); have n3_ := Aside0.mk (Kd.C_below (by repeat (first | (with_reducible exact HR241_1.out) | (with_reducible refine Kd.C_alloc ?_ _) | (with_reducible refine Kd.C_drewN ?_ _) | (with_reducible refine Kd.C_drew ?_) | exact HR241_1.out)) hb); have n4_ := Aside0.mk (below_step (by repeat (first | (with_reducible first | exact HB.out | apply below_alloc | apply pw_below_drewN | apply below_drew1) | exact HB.out | exact Below.refl _ _)) hb); clear HO0; clear HL241_1; clear HR241_1; clear HB; have HO0 := n0_; have HL241_1 := n1_; have HO253 := n2_; have HR241_1 := n3_; have HB := n4_; clear n0_ n1_ n2_ n3_ n4_; (try clear hb); (try clear hb2); (try clear hk); (try clear hi); (try clear ho0); obtain ⟨Ao21, co21, eo21⟩ := Kd.S_slice HO253.out; subst eo21; have p254 : 0 ≤ ((ji2) : Int) := of_decide_eq_true (by first | (with_reducible assumption) | assumption); have q254 : (ji2) < (t250.length : Int) := of_decide_eq_true (by first | (with_reducible assumption) | assumption); obtain ⟨ad254, A254_0, c254_0, e254, hx254_0, hl254_0, hi254_0⟩ := at_L1 (Kd.S_reads' HO253.out).2.2 (ji2) p254 q254; cases e254; obtain ⟨ce254, hce254, hMe254, hcc254⟩ := Kd.S_get HO253.out [] (ji2) p254 (by first | exact q254 | exact of_decide_eq_true (by first | (with_reducible assumption) | assumption) | (have e_ := (Kd.S_reads' HO253.out).1; omega)); obtain ⟨ve254_0, rfl, ge254_0⟩ := hMe254; have hv254_0 := hcc254 0 _ rfl; rw [Nat.add_zero, show ((Kd.slice 3 (Kd.int .i64))).sz = 1 from rfl, Nat.mul_one] at hv254_0; replace hv254_0 := Option.some.inj (hv254_0.symm.trans hx254_0); rw [hv254_0] at ge254_0; have HL254_0 := Aside0.mk (show Kd.R (Kd.int .i64) 3 _ _ _ _ (rd_L1 t250 (ji2)) from ge254_0); clear hv254_0 ge254_0; clear hcc254 hce254; have HR254_0 := Aside0.mk hi254_0; have HC254_0 := Aside0.mk hl254_0; clear hi254_0 hl254_0; replace p254 := eq_true p254; replace q254 := eq_true q254; have p255 : 0 ≤ (0 : Int) := (by omega); have q255 : 0 < ((rd_L1 t250 (ji2)).length : Int) := of_decide_eq_true (by first | (with_reducible assumption) | assumption); obtain ⟨ad255, e255, hx255_0⟩ := Kd.at_int (by repeat (first | (with_reducible exact HR254_0.out) | (with_reducible refine Kd.C_alloc ?_ _) | (with_reducible refine Kd.C_drewN ?_ _) | (with_reducible refine Kd.C_drew ?_) | exact HR254_0.out)) 0 p255 q255; cases e255; have qi255 : (0 < (rd_L1 t250 (ji2)).length) = True := eq_true (by omega); (try rw [show ((0 : Int)).toNat = 0 from rfl] at hx255_0); (try rw [Addr.add_zero'] at hx255_0); replace p255 := eq_true p255; replace q255 := eq_true q255; have p256 : 0 ≤ ((ji2) : Int) := of_decide_eq_true (by first | (with_reducible assumption) | assumption); have q256 : (ji2) < (l0.length : Int) := of_decide_eq_true (by first | (with_reducible assumption) | assumption); obtain ⟨ad256, A256_1, c256_1, e256, hx256_0, hx256_1, hl256_1, hi256_1⟩ := at_T49 (Kd.V_reads' HO0.out).2.2 (ji2) p256 q256; obtain rfl : ad241 = ad256 := (by injection e256); obtain ⟨ce256, hce256, hMe256, hcc256⟩ := Kd.V_get HO0.out z49 (ji2) p256 (by first | exact q256 | exact of_decide_eq_true (by first | (with_reducible assumption) | assumption) | (have e_ := (Kd.V_reads' HO0.out).1; omega)); obtain ⟨ua256_1, uc256_1, rfl, ul256_1, ge256_1⟩ := k49_openF hMe256; have hv256_1 := hcc256 1 _ rfl; rw [add_field _ _ 1 (by omega)] at hv256_1; replace hv256_1 := Option.some.inj (hv256_1.symm.trans hx256_1); injection hv256_1 with hva_ hvn_ hvc_; rw [hva_] at ge256_1; rw [hvc_] at ul256_1; have HL256_1 := Aside0.mk (show Kd.V (Kd.int .i64) 3 _ w.heap.size _ _ ((rd_T49 l0 (ji2)).f1) from Kd.V_mk ul256_1 ge256_1); clear hva_ hvn_ hvc_ ge256_1 ul256_1; clear hcc256 hce256; have HR256_1 := Aside0.mk hi256_1; have HC256_1 := Aside0.mk hl256_1; clear hi256_1 hl256_1; replace p256 := eq_true p256; replace q256 := eq_true q256; have q22 : ((ji14) : Int) ≤ ((l0.length : Int) : Int) := of_decide_eq_true (by first | (with_reducible assumption) | assumption); obtain ⟨i022, hi022, _, hsz22, _⟩ := info_parts info49; have hroom22 : l0.length ≤ c0 := (Kd.V_reads' HO0.out).2.1; have hC22 : Kd.F k49 _ _ (some ad241) l0.length l0 := (Kd.V_at (base := w.heap.size) HO0.out).2.2; have hcut22 := cut_to (P := Try.prog) 25 49 .i64 Try.underlying25 hi022 (some ad241) l0.length c0 (ji14) (of_decide_eq_true (by first | (with_reducible assumption) | assumption)) q22 hroom22; have hr22 := Kd.F_take (m := ((ji14) : Int).toNat) hC22 (by omega); have hy22 : y257.length = ((ji14) : Int).toNat := (by rw [Ny257.out, List.length_take]; omega); rw [← Ny257.out] at hr22; rw [← hy22] at hcut22; have HO261 := Aside0.mk (show Kd.V k49 49 _ w.heap.size _ (.slice (some ad241) y257.length c0) y257 from Kd.V_mk (by omega) hr22); have HC261 := Aside0.mk (show y257.length ≤ c0 from by omega); clear hr22 hC22 hroom22 hi022 hsz22; have KY22 := Aside0.mk hy22; clear hy22; replace q22 := eq_true q22; have q23 : ((ji2) : Int) ≤ ((l0.length : Int) : Int) := of_decide_eq_true (by first | (with_reducible assumption) | assumption); obtain ⟨i023, hi023, _, hsz23, _⟩ := info_parts info49; have hroom23 : l0.length ≤ c0 := (Kd.V_reads' HO0.out).2.1; have hC23 : Kd.F k49 _ _ (some ad241) l0.length l0 := (Kd.V_at (base := w.heap.size) HO0.out).2.2; have ql23 : ((ji14) : Int) ≤ ((ji2) : Int) := of_decide_eq_true (by first | (with_reducible assumption) | assumption); have q023 : (0 : Int) ≤ ((ji14) : Int) := of_decide_eq_true (by first | (with_reducible assumption) | assumption); have hcut23 := cut_mid (P := Try.prog) 25 49 .i64 .i64 Try.underlying25 hi023 2 hsz23 (some ad241) l0.length c0 (ji14) (ji2) q023 ql23 q23 hroom23; have hr23 := Kd.F_mid (lo := ((ji14) : Int).toNat) (hi := ((ji2) : Int).toNat) (c := c0) hC23 (by omega) (by omega) hroom23; obtain ⟨A23, hA23⟩ : ∃ A1, A1 = (if c0 = ((ji14) : Int).toNat then (some ad241) else ((some ad241) : Option Addr).map (·.add (((ji14) : Int).toNat * 2))) := ⟨_, rfl⟩; obtain ⟨c23, hc23⟩ : ∃ c1, c1 = c0 - ((ji14) : Int).toNat := ⟨_, rfl⟩; have hy23 : y262.length = ((ji2) : Int).toNat - ((ji14) : Int).toNat := (by rw [Ny262.out, List.length_drop, List.length_take] <;> omega); rw [show ((l0).take ((ji2) : Int).toNat).drop ((ji14) : Int).toNat = y262 from Ny262.out.symm] at hr23; replace hr23 : Kd.F k49 _ _ A23 y262.length y262 := (by rw [hA23]; exact hr23); rw [← hy23, ← hA23, ← hc23] at hcut23; have HO266 := Aside0.mk (show Kd.V k49 49 _ w.heap.size _ (.slice A23 y262.length c23) y262 from Kd.V_mk (by rw [hy23, hc23]; exact Nat.sub_le_sub_right (Nat.le_trans (by omega) hroom23) _) hr23); have HC266 := Aside0.mk (show y262.length ≤ c23 from by rw [hy23, hc23]; exact Nat.sub_le_sub_right (Nat.le_trans (by omega) hroom23) _); clear hr23 hC23 hroom23 hi023 hsz23 hc23; have KY23 := Aside0.mk hy23; have KA23 := Aside0.mk hA23; clear hy23 hA23; replace q23 := eq_true q23)))
                      go_ret3
                      exact ⟨_, _, by first | rfl | (simp [errW_none, errW_some] <;> rfl) | (simp only [← hji2, ← hji14]; first | rfl | (simp [errW_none, errW_some] <;> rfl)) | (simp [*, errW_none, errW_some] <;> rfl), by (with_reducible repeat (first | apply Kd.V_alloc | apply Kd.V_drewN | apply Kd.V_drew)); exact Kd.V_mono HO261.out (fun _ hk => hk.1), by (with_reducible repeat (first | apply Kd.V_alloc | apply Kd.V_drewN | apply Kd.V_drew)); exact Kd.V_mono HO266.out (fun _ hk => hk.1), by repeat (first | (with_reducible first | exact HB.out | apply below_alloc | apply pw_below_drewN | apply below_drew1) | exact HB.out | exact Below.refl _ _)⟩
                    · rw [if_neg c19] at H
                      exact absurd H (by simp)
                  · rw [if_neg c18] at H
                    exact absurd H (by simp)
                · rw [if_neg c16] at H
                  exact absurd H (by simp)
              · rw [if_neg c15] at H
                exact absurd H (by simp)
            · rw [if_neg c13] at H
              exact absurd H (by simp)
          · rw [if_neg c12] at H
            exact absurd H (by simp)
    · rw [if_neg c4] at H
      exact absurd H (by simp)
  · rw [if_neg c3] at H
    exact absurd H (by simp)

end Go.Proofs.Ytlmpeaelpchokaa.HFnExactTidyRe
