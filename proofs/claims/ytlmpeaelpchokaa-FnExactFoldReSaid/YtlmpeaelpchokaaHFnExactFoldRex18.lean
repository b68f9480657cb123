/- Written by wip/pr.py of this session, for the law FnExactFoldRe: Lean functions with the answers of the program's, and the proofs of that; where the kit's print has no word, by hand. -/
import Derived.Test.YtlmpeaelpchokaaHFnExactFoldRex0
import Derived.Test.YtlmpeaelpchokaaHFnExactFoldRex13
import Derived.Test.YtlmpeaelpchokaaHFnExactFoldRex14
import Derived.Test.YtlmpeaelpchokaaHFnExactFoldRex15
import Derived.Test.YtlmpeaelpchokaaHFnExactFoldRex17
namespace Go.Proofs.Ytlmpeaelpchokaa.HFnExactFoldRe
open Go.RowKit Go.Proofs.YtlmpeaelpchokaaW.PrintWords Go.Proofs.YtlmpeaelpchokaaW.PrintLast Go.Proofs.YtlmpeaelpchokaaW.PrintMore
attribute [local go_sem] max2_int min2_int max_two min_two max_three min_three max_four min_four   -- for this text's walks alone
set_option linter.unusedVariables false
set_option linter.unusedSimpArgs false

/-! ### impl_foldSet: function 72 -/
def impl_foldSet.l0 : Nat → List Int → List (S92) → Int → Option (List Int)
  | 0, _, _, _ => none
  | k + 1, x0, x3, x4 => if x4 ≤ 90 then ((impl_inSet.f k x0 (wrap64 (x4))).bind fun t328 => (if t328 = true then ((some (([(⟨wrap64 (x4), wrap64 (x4)⟩ : S92), (⟨wrap64 ((wrap64 ((wrap64 (x4)) + 97)) - 65), wrap64 ((wrap64 ((wrap64 (x4)) + 97)) - 65)⟩ : S92)] : List (S92)) : List (S92))).bind fun y329 => (if x3.length + y329.length < 8796093022208 then (impl_foldSet.l0 k x0 (x3 ++ y329) (wrap32 (x4 + 1))) else (none))) else ((impl_inSet.f k x0 (wrap64 ((wrap64 ((wrap64 (x4)) + 97)) - 65))).bind fun t335 => (if t335 = true then ((some (([(⟨wrap64 (x4), wrap64 (x4)⟩ : S92), (⟨wrap64 ((wrap64 ((wrap64 (x4)) + 97)) - 65), wrap64 ((wrap64 ((wrap64 (x4)) + 97)) - 65)⟩ : S92)] : List (S92)) : List (S92))).bind fun y336 => (if x3.length + y336.length < 8796093022208 then (impl_foldSet.l0 k x0 (x3 ++ y336) (wrap32 (x4 + 1))) else (none))) else (impl_foldSet.l0 k x0 x3 (wrap32 (x4 + 1))))))) else ((impl_setOf.f k x3).bind fun bt324 => (some bt324.1))
def impl_foldSet.f (k : Nat) (l0 : List Int) : Option (List Int) := (impl_spansOf.f k l0).bind fun t321 => (impl_foldSet.l0 k l0 t321 65)
theorem impl_foldSet.mono_l : ∀ k, (∀ y0 y1 y2, LeO (impl_foldSet.l0 k y0 y1 y2) (impl_foldSet.l0 (k + 1) y0 y1 y2))
  | 0 => fun _ _ _ r h => by simp [impl_foldSet.l0] at h
  | k + 1 => by
    have ih0 := impl_foldSet.mono_l k
    · intro y0 y1 y2
      unfold impl_foldSet.l0
      repeat' first
      | (with_reducible exact ih0 _ _ _)
      | (with_reducible exact impl_inSet.mono _ _ _)
      | (with_reducible exact impl_setOf.mono _ _)
      | (with_reducible exact impl_spansOf.mono _ _)
      | (with_reducible exact LeO.refl _)
      | (with_reducible exact LeO.none _)
      | (with_reducible refine LeO.ite ?_ ?_)
      | (with_reducible refine LeO.bind ?_ (fun _ => ?_))
      | exact ih0 _ _ _
      | exact impl_inSet.mono _ _ _
      | exact impl_setOf.mono _ _
      | exact impl_spansOf.mono _ _
      | exact LeO.none _
      | refine LeO.ite ?_ ?_
      | refine LeO.bind ?_ (fun _ => ?_)
theorem impl_foldSet.mono : ∀ a0 k, LeO (impl_foldSet.f k a0) (impl_foldSet.f (k + 1) a0) := by
  intro a0 k
  have ih0 := impl_foldSet.mono_l k
  unfold impl_foldSet.f
  repeat' first
      | (with_reducible exact ih0 _ _ _)
      | (with_reducible exact impl_inSet.mono _ _ _)
      | (with_reducible exact impl_setOf.mono _ _)
      | (with_reducible exact impl_spansOf.mono _ _)
      | (with_reducible exact LeO.refl _)
      | (with_reducible exact LeO.none _)
      | (with_reducible refine LeO.ite ?_ ?_)
      | (with_reducible refine LeO.bind ?_ (fun _ => ?_))
      | exact ih0 _ _ _
      | exact impl_inSet.mono _ _ _
      | exact impl_setOf.mono _ _
      | exact impl_spansOf.mono _ _
      | exact LeO.none _
      | refine LeO.ite ?_ ?_
      | refine LeO.bind ?_ (fun _ => ?_)
set_option maxHeartbeats 8000000 in
set_option maxRecDepth 100000 in
theorem impl_foldSet.calls (k : Nat) (A0 : Option Addr) (c0 : Nat) (l0 : List Int) (r : List Int) (w : World) (hr0 : Kd.C (Kd.int .i64) w A0 l0.length l0) (hc0 : l0.length ≤ c0) (h : impl_foldSet.f k l0 = some r) :
    Calls Try.prog 72 #[.slice A0 l0.length c0] w fun e w' => ∃ v0_ : Value, e = .returned (v0_) ∧ Kd.R (Kd.int .i64) 3 w' w.heap.size (fun _ => True) v0_ r ∧ Below w.heap.size w w' := by
  have hu92 := Try.underlying92
  have HR0 := Aside0.mk hr0
  have HC0 := Aside0.mk hc0
  clear hr0 hc0
  have HB := Aside0.mk (Below.refl w.heap.size w)
  have H : ((impl_spansOf.f k l0).bind fun t321 => (impl_foldSet.l0 k l0 t321 65)) = some r := h
  clear h
  replace H := Option.bind_eq_some_iff.mp H
  obtain ⟨t321, A20, H⟩ := H
  replace H : (impl_foldSet.l0 k l0 t321 65) = some r := H
  have A2 := Aside0.mk A20
  clear A20
  have H' := Aside0.mk H
  clear H
  go_enter Try.func72, Try.ntmps72
  go_wp2_with (first | ((with_reducible refine gate_callee (f := 102) rfl ?_); refine goesL_ (some 8) rfl rfl Try.func102 (by kernel_rfl) rfl #[.slice A0 l0.length c0] rfl (by (try simp only [List.map_toArray, List.map_cons, List.map_nil]); first | done | rfl | (simp only [List.length_drop, List.length_take]; rfl)) ?_; (with_reducible refine (impl_spansOf.calls k _ _ l0 t321 _ ?side1 ?side2 A2.out).mono ?_); (case side1 => repeat (first | exact HR0.out | (with_reducible refine Kd.C_alloc ?_ _) | (with_reducible refine Kd.C_drewN ?_ _) | (with_reducible refine Kd.C_drew ?_))); (case side2 => exact HC0.out); rintro e w3 ⟨v322, rfl, ho0, hb⟩; refine ⟨_, rfl, ?_⟩; have n0_ := Aside0.mk (Kd.R_lower ho0 (below_size (by repeat (first | (with_reducible first | exact HB.out | apply below_alloc | apply pw_below_drewN | apply below_drew1) | exact HB.out | exact Below.refl _ _)))); have n1_ := Aside0.mk (below_step (by repeat (first | (with_reducible first | exact HB.out | apply below_alloc | apply pw_below_drewN | apply below_drew1) | exact HB.out | exact Below.refl _ _)) hb); clear HB; have HO323 := n0_; have HB := n1_; clear n0_ n1_; (try clear hb); (try clear hb2); (try clear hk); (try clear hi); (try clear ho0)))
  go_loopg [3, 4] k (fun kq v3 v4 w' => ∃ (x3_1 : List (S92)) (x4_1 : Int), v4 = .int .i32 x4_1 ∧ Aside0 (impl_foldSet.l0 kq l0 x3_1 x4_1 = some r) ∧ Aside0 (kq ≤ k) ∧ Aside0 (Kd.R k92 92 w' w.heap.size (fun _ => True) v3 x3_1) ∧ Aside0 (Below w.heap.size w w'))
  case atStart => exact ⟨(t321), (65), (by first | rfl | (simp; done) | (simp [*]; done)), H', ⟨Nat.le_refl _⟩, ⟨by (with_reducible repeat (first | apply Kd.R_alloc | apply Kd.R_drewN | apply Kd.R_drew)); exact HO323.out⟩, ⟨by repeat (first | (with_reducible first | exact HB.out | apply below_alloc | apply pw_below_drewN | apply below_drew1) | exact HB.out | exact Below.refl _ _)⟩⟩
  case round =>
    clear H'
    try clear c1
    try clear p2
    obtain ⟨x3_1, x4_1, rfl, HA, HK1, HO_3, HB⟩ := hrel
    cases gk with
    | zero => exact absurd HA.out (by simp [impl_foldSet.l0])
    | succ k1 =>
      have H := HA.out
      clear HA
      simp only [impl_foldSet.l0] at H
      by_cases c4 : x4_1 ≤ 90
      · rw [if_pos c4] at H
        have c4b0 : decide (x4_1 ≤ 90) = true := decide_eq_true c4
        clear c4
        replace H := Option.bind_eq_some_iff.mp H
        obtain ⟨t328, A50, H⟩ := H
        replace H : (if t328 = true then ((some (([(⟨wrap64 (x4_1), wrap64 (x4_1)⟩ : S92), (⟨wrap64 ((wrap64 ((wrap64 (x4_1)) + 97)) - 65), wrap64 ((wrap64 ((wrap64 (x4_1)) + 97)) - 65)⟩ : S92)] : List (S92)) : List (S92))).bind fun y329 => (if x3_1.length + y329.length < 8796093022208 then (impl_foldSet.l0 k1 l0 (x3_1 ++ y329) (wrap32 (x4_1 + 1))) else (none))) else ((impl_inSet.f k1 l0 (wrap64 ((wrap64 ((wrap64 (x4_1)) + 97)) - 65))).bind fun t335 => (if t335 = true then ((some (([(⟨wrap64 (x4_1), wrap64 (x4_1)⟩ : S92), (⟨wrap64 ((wrap64 ((wrap64 (x4_1)) + 97)) - 65), wrap64 ((wrap64 ((wrap64 (x4_1)) + 97)) - 65)⟩ : S92)] : List (S92)) : List (S92))).bind fun y336 => (if x3_1.length + y336.length < 8796093022208 then (impl_foldSet.l0 k1 l0 (x3_1 ++ y336) (wrap32 (x4_1 + 1))) else (none))) else (impl_foldSet.l0 k1 l0 x3_1 (wrap32 (x4_1 + 1)))))) = some r := H
        have A5 := Aside0.mk A50
        clear A50
        by_cases c6 : t328 = true
        · subst c6
          have H1 : ((some (([(⟨wrap64 (x4_1), wrap64 (x4_1)⟩ : S92), (⟨wrap64 ((wrap64 ((wrap64 (x4_1)) + 97)) - 65), wrap64 ((wrap64 ((wrap64 (x4_1)) + 97)) - 65)⟩ : S92)] : List (S92)) : List (S92))).bind fun y329 => (if x3_1.length + y329.length < 8796093022208 then (impl_foldSet.l0 k1 l0 (x3_1 ++ y329) (wrap32 (x4_1 + 1))) else (none))) = some r := by rw [if_pos rfl] at H; exact H
          clear H
          have H := H1
          clear H1
          obtain ⟨y329, hy329⟩ : ∃ y_ : List (S92), y_ = (([(⟨wrap64 (x4_1), wrap64 (x4_1)⟩ : S92), (⟨wrap64 ((wrap64 ((wrap64 (x4_1)) + 97)) - 65), wrap64 ((wrap64 ((wrap64 (x4_1)) + 97)) - 65)⟩ : S92)] : List (S92))) := ⟨_, rfl⟩
          replace H : (if x3_1.length + y329.length < 8796093022208 then (impl_foldSet.l0 k1 l0 (x3_1 ++ y329) (wrap32 (x4_1 + 1))) else (none)) = some r := by first | (rw [hy329]; with_reducible exact H) | (have H2_ := (Option.bind_some _ _).symm.trans H; rw [hy329]; with_reducible exact H2_) | (have H2_ := (Option.bind_some _ _).symm.trans H; with_reducible exact H2_) | with_reducible exact H | (rw [hy329]; exact H) | exact H
          have Ny329 := Aside0.mk hy329
          clear hy329
          by_cases c7 : x3_1.length + y329.length < 8796093022208
          · rw [if_pos c7] at H
            have LMc7 := Aside0.mk c7
            clear c7
            obtain ⟨y332, hy332⟩ : ∃ y_ : List (S92), y_ = (x3_1 ++ y329) := ⟨_, rfl⟩
            replace H : (impl_foldSet.l0 k1 l0 y332 (wrap32 (x4_1 + 1))) = some r := by first | (rw [hy332]; with_reducible exact H) | (have H2_ := (Option.bind_some _ _).symm.trans H; rw [hy332]; with_reducible exact H2_) | (have H2_ := (Option.bind_some _ _).symm.trans H; with_reducible exact H2_) | with_reducible exact H | (rw [hy332]; exact H) | exact H
            have Ny332 := Aside0.mk hy332
            clear hy332
            have H' := Aside0.mk H
            clear H
            go_wp2_with (first | ((with_reducible refine gate_callee (f := 103) rfl ?_); refine goesL_ (some 21) rfl rfl Try.func103 (by kernel_rfl) rfl #[.slice A0 l0.length c0, .int .i64 (wrap64 (x4_1))] rfl (by (try simp only [List.map_toArray, List.map_cons, List.map_nil]); first | done | rfl | (simp only [List.length_drop, List.length_take]; rfl)) ?_; (with_reducible refine (impl_inSet.calls k1 _ _ l0 (wrap64 (x4_1)) true _ ?side1 ?side2 A5.out).mono ?_); (case side1 => repeat (first | exact (Kd.C_below HR0.out HB.out) | exact HR0.out | (with_reducible refine Kd.C_alloc ?_ _) | (with_reducible refine Kd.C_drewN ?_ _) | (with_reducible refine Kd.C_drew ?_))); (case side2 => exact HC0.out); rintro e w8 ⟨rfl, hb⟩; refine ⟨_, rfl, ?_⟩; have n0_ := Aside0.mk (Kd.R_below (by (with_reducible repeat (first | apply Kd.R_alloc | apply Kd.R_drewN | apply Kd.R_drew)); exact HO_3.out) hb); have n1_ := Aside0.mk (below_step (by repeat (first | (with_reducible first | exact HB.out | apply below_alloc | apply pw_below_drewN | apply below_drew1) | exact HB.out | exact Below.refl _ _)) hb); clear HO_3; clear HB; have HO_3 := n0_; have HB := n1_; clear n0_ n1_; (try clear hb); (try clear hb2); (try clear hk); (try clear hi)) | ((with_reducible refine gate_dst (N := 34) rfl ?_); refine Kd.R_lit k92 _ 92 ?hg (N := 34) ?hd (xs := ([(⟨wrap64 (x4_1), wrap64 (x4_1)⟩ : S92), (⟨wrap64 ((wrap64 ((wrap64 (x4_1)) + 97)) - 65), wrap64 ((wrap64 ((wrap64 (x4_1)) + 97)) - 65)⟩ : S92)] : List (S92))) (inner := [.int .i64 (wrap64 (x4_1)), .int .i64 (wrap64 (x4_1)), .int .i64 (wrap64 ((wrap64 ((wrap64 (x4_1)) + 97)) - 65)), .int .i64 (wrap64 ((wrap64 ((wrap64 (x4_1)) + 97)) - 65))]) (ok := fun _ => True) (okp := fun _ => True) ?hr ?hp (fun _ hk => hk) trivial (Below.refl _ _) (Nat.le_refl _) (by simp) ?_; (case hd => rfl); (case hg => rfl); (case hr => first | (go_simp; done) | (go_simp; rfl)); (case hp => exact (Reps.c2 (show Kd.M k92 _ _ _ (⟨wrap64 (x4_1), wrap64 (x4_1)⟩ : S92) [.int .i64 (wrap64 (x4_1)), .int .i64 (wrap64 (x4_1))] from (k92_mkM _ _ _ (⟨wrap64 (x4_1), wrap64 (x4_1)⟩ : S92) )) (Reps.c2 (show Kd.M k92 _ _ _ (⟨wrap64 ((wrap64 ((wrap64 (x4_1)) + 97)) - 65), wrap64 ((wrap64 ((wrap64 (x4_1)) + 97)) - 65)⟩ : S92) [.int .i64 (wrap64 ((wrap64 ((wrap64 (x4_1)) + 97)) - 65)), .int .i64 (wrap64 ((wrap64 ((wrap64 (x4_1)) + 97)) - 65))] from (k92_mkM _ _ _ (⟨wrap64 ((wrap64 ((wrap64 (x4_1)) + 97)) - 65), wrap64 ((wrap64 ((wrap64 (x4_1)) + 97)) - 65)⟩ : S92) )) (Reps.none _ _)))); intro v330 w9 ho10 hb hg_ hnew_; clear hg_ hnew_; (first | rw [← Ny329.out] at ho10 | (simp only [Int.reduceToNat] at ho10; rw [← Ny329.out] at ho10)); have n0_ := Aside0.mk (Kd.R_elder' (by (with_reducible repeat (first | apply Kd.R_alloc | apply Kd.R_drewN | apply Kd.R_drew)); exact HO_3.out) (Kd.R_base ho10) hb); have n1_ := Aside0.mk (Kd.R_lower (Kd.R_new' ho10 (Kd.R_lt (by (with_reducible repeat (first | apply Kd.R_alloc | apply Kd.R_drewN | apply Kd.R_drew)); exact HO_3.out))) (below_size (by repeat (first | (with_reducible first | exact HB.out | apply below_alloc | apply pw_below_drewN | apply below_drew1) | exact HB.out | exact Below.refl _ _)))); have n2_ := Aside0.mk (below_step (by repeat (first | (with_reducible first | exact HB.out | apply below_alloc | apply pw_below_drewN | apply below_drew1) | exact HB.out | exact Below.refl _ _)) hb); clear HO_3; clear HB; have HO_3 := n0_; have HO331 := n1_; have HB := n2_; clear n0_ n1_ n2_; clear hb ho10; obtain ⟨Ao12, co12, eo12⟩ := Kd.R_slice HO331.out; subst eo12) | ((with_reducible refine gate_builtin (b := .append) (xs := #[.tmp 27, .tmp 34]) rfl ?_); at_builtin; refine Kd.R_append_rows k92 (w0 := w) w.heap.size rfl (.tmp 27) (.tmp 34) 89 92 (.agg #[(.int .i64 0), (.int .i64 0)]) 16 rfl Try.underlying89 info92 rfl (by decide) (by omega) u3 x3_1 y329 _ _ _ (fun k_ => some k_ ≠ (.slice Ao12 y329.length co12 : Value).ownBlock) (fun _ => False) rfl rfl ?aO ?aR (fun _ _ h => h) (fun _ h => h.elim) ?aF ?aB ?aS ?aL ?_; (case aR => repeat (first | exact (Kd.R_reads' HO331.out).2.2 | (with_reducible refine Kd.C_alloc ?_ _) | (with_reducible refine Kd.C_drewN ?_ _) | (with_reducible refine Kd.C_drew ?_))); (case aB => exact (by repeat (first | (with_reducible first | exact HB.out | apply below_alloc | apply pw_below_drewN | apply below_drew1) | exact HB.out | exact Below.refl _ _))); (case aF => exact (fun k_ hk => Kd.fresh' (Kd.R_lt (by (with_reducible repeat (first | apply Kd.R_alloc | apply Kd.R_drewN | apply Kd.R_drew)); exact HO331.out)) k_ hk)); (case aO => exact (by (with_reducible repeat (first | apply Kd.R_alloc | apply Kd.R_drewN | apply Kd.R_drew)); exact Kd.R_mono HO_3.out (fun _ hk => hk.2))); (case aS => exact (below_size (by repeat (first | (with_reducible first | exact HB.out | apply below_alloc | apply pw_below_drewN | apply below_drew1) | exact HB.out | exact Below.refl _ _)))); (case aL => have := LMc7.out; omega); intro v333 w11 ho hb hg hat; rw [← Ny332.out] at ho; have n0_ := Aside0.mk (Kd.R_after (ok := (fun _ => True)) (by (with_reducible repeat (first | apply Kd.R_alloc | apply Kd.R_drewN | apply Kd.R_drew)); exact HO331.out) hg hat); have n1_ := Aside0.mk (hb); have n2_ := Aside0.mk (ho); clear HO331; clear HB; clear HO_3; have HO331 := n0_; have HB := n1_; have HO334 := n2_; clear n0_ n1_ n2_; clear ho hb hg hat))
            go_roundg k1
            case measure => have := HK1.out; omega
            case rel => exact ⟨(y332), (wrap32 (x4_1 + 1)), (by first | rfl | (simp; done) | (simp [*]; done)), H', ⟨by have := HK1.out; omega⟩, ⟨by (with_reducible repeat (first | apply Kd.R_alloc | apply Kd.R_drewN | apply Kd.R_drew)); exact Kd.R_mono HO334.out (fun _ hk => trivial)⟩, ⟨by repeat (first | (with_reducible first | exact HB.out | apply below_alloc | apply pw_below_drewN | apply below_drew1) | exact HB.out | exact Below.refl _ _)⟩⟩
          · rw [if_neg c7] at H
            exact absurd H (by simp)
        · replace c6 := Bool.eq_false_iff.mpr c6
          subst c6
          have H1 : ((impl_inSet.f k1 l0 (wrap64 ((wrap64 ((wrap64 (x4_1)) + 97)) - 65))).bind fun t335 => (if t335 = true then ((some (([(⟨wrap64 (x4_1), wrap64 (x4_1)⟩ : S92), (⟨wrap64 ((wrap64 ((wrap64 (x4_1)) + 97)) - 65), wrap64 ((wrap64 ((wrap64 (x4_1)) + 97)) - 65)⟩ : S92)] : List (S92)) : List (S92))).bind fun y336 => (if x3_1.length + y336.length < 8796093022208 then (impl_foldSet.l0 k1 l0 (x3_1 ++ y336) (wrap32 (x4_1 + 1))) else (none))) else (impl_foldSet.l0 k1 l0 x3_1 (wrap32 (x4_1 + 1))))) = some r := by rw [if_neg (show ¬ (false = true) by decide)] at H; exact H
          clear H
          have H := H1
          clear H1
          replace H := Option.bind_eq_some_iff.mp H
          obtain ⟨t335, A130, H⟩ := H
          replace H : (if t335 = true then ((some (([(⟨wrap64 (x4_1), wrap64 (x4_1)⟩ : S92), (⟨wrap64 ((wrap64 ((wrap64 (x4_1)) + 97)) - 65), wrap64 ((wrap64 ((wrap64 (x4_1)) + 97)) - 65)⟩ : S92)] : List (S92)) : List (S92))).bind fun y336 => (if x3_1.length + y336.length < 8796093022208 then (impl_foldSet.l0 k1 l0 (x3_1 ++ y336) (wrap32 (x4_1 + 1))) else (none))) else (impl_foldSet.l0 k1 l0 x3_1 (wrap32 (x4_1 + 1)))) = some r := H
          have A13 := Aside0.mk A130
          clear A130
          by_cases c14 : t335 = true
          · subst c14
            have H1 : ((some (([(⟨wrap64 (x4_1), wrap64 (x4_1)⟩ : S92), (⟨wrap64 ((wrap64 ((wrap64 (x4_1)) + 97)) - 65), wrap64 ((wrap64 ((wrap64 (x4_1)) + 97)) - 65)⟩ : S92)] : List (S92)) : List (S92))).bind fun y336 => (if x3_1.length + y336.length < 8796093022208 then (impl_foldSet.l0 k1 l0 (x3_1 ++ y336) (wrap32 (x4_1 + 1))) else (none))) = some r := by rw [if_pos rfl] at H; exact H
            clear H
            have H := H1
            clear H1
            obtain ⟨y336, hy336⟩ : ∃ y_ : List (S92), y_ = (([(⟨wrap64 (x4_1), wrap64 (x4_1)⟩ : S92), (⟨wrap64 ((wrap64 ((wrap64 (x4_1)) + 97)) - 65), wrap64 ((wrap64 ((wrap64 (x4_1)) + 97)) - 65)⟩ : S92)] : List (S92))) := ⟨_, rfl⟩
            replace H : (if x3_1.length + y336.length < 8796093022208 then (impl_foldSet.l0 k1 l0 (x3_1 ++ y336) (wrap32 (x4_1 + 1))) else (none)) = some r := by first | (rw [hy336]; with_reducible exact H) | (have H2_ := (Option.bind_some _ _).symm.trans H; rw [hy336]; with_reducible exact H2_) | (have H2_ := (Option.bind_some _ _).symm.trans H; with_reducible exact H2_) | with_reducible exact H | (rw [hy336]; exact H) | exact H
            have Ny336 := Aside0.mk hy336
            clear hy336
            by_cases c15 : x3_1.length + y336.length < 8796093022208
            · rw [if_pos c15] at H
              have LMc15 := Aside0.mk c15
              clear c15
              obtain ⟨y339, hy339⟩ : ∃ y_ : List (S92), y_ = (x3_1 ++ y336) := ⟨_, rfl⟩
              replace H : (impl_foldSet.l0 k1 l0 y339 (wrap32 (x4_1 + 1))) = some r := by first | (rw [hy339]; with_reducible exact H) | (have H2_ := (Option.bind_some _ _).symm.trans H; rw [hy339]; with_reducible exact H2_) | (have H2_ := (Option.bind_some _ _).symm.trans H; with_reducible exact H2_) | with_reducible exact H | (rw [hy339]; exact H) | exact H
              have Ny339 := Aside0.mk hy339
              clear hy339
              have H' := Aside0.mk H
              clear H
              go_wp2_with (first | ((with_reducible refine gate_callee (f := 103) rfl ?_); refine goesL_ (some 21) rfl rfl Try.func103 (by kernel_rfl) rfl #[.slice A0 l0.length c0, .int .i64 (wrap64 (x4_1))] rfl (by (try simp only [List.map_toArray, List.map_cons, List.map_nil]); first | done | rfl | (simp only [List.length_drop, List.length_take]; rfl)) ?_; (with_reducible refine (impl_inSet.calls k1 _ _ l0 (wrap64 (x4_1)) false _ ?side1 ?side2 A5.out).mono ?_); (case side1 => repeat (first | exact (Kd.C_below HR0.out HB.out) | exact HR0.out | (with_reducible refine Kd.C_alloc ?_ _) | (with_reducible refine Kd.C_drewN ?_ _) | (with_reducible refine Kd.C_drew ?_))); (case side2 => exact HC0.out); rintro e w16 ⟨rfl, hb⟩; refine ⟨_, rfl, ?_⟩; have n0_ := Aside0.mk (Kd.R_below (by (with_reducible repeat (first | apply Kd.R_alloc | apply Kd.R_drewN | apply Kd.R_drew)); exact HO_3.out) hb); have n1_ := Aside0.mk (below_step (by repeat (first | (with_reducible first | exact HB.out | apply below_alloc | apply pw_below_drewN | apply below_drew1) | exact HB.out | exact Below.refl _ _)) hb); clear HO_3; clear HB; have HO_3 := n0_; have HB := n1_; clear n0_ n1_; (try clear hb); (try clear hb2); (try clear hk); (try clear hi)) | (go_at_call 103; (with_reducible refine (impl_inSet.calls k1 _ _ l0 (wrap64 ((wrap64 ((wrap64 (x4_1)) + 97)) - 65)) true _ ?side1 ?side2 A13.out).mono ?_); (case side1 => repeat (first | exact (Kd.C_below HR0.out HB.out) | exact HR0.out | (with_reducible refine Kd.C_alloc ?_ _) | (with_reducible refine Kd.C_drewN ?_ _) | (with_reducible refine Kd.C_drew ?_))); (case side2 => exact HC0.out); rintro e w17 ⟨rfl, hb⟩; have n0_ := Aside0.mk (Kd.R_below (by (with_reducible repeat (first | apply Kd.R_alloc | apply Kd.R_drewN | apply Kd.R_drew)); exact HO_3.out) hb); have n1_ := Aside0.mk (below_step (by repeat (first | (with_reducible first | exact HB.out | apply below_alloc | apply pw_below_drewN | apply below_drew1) | exact HB.out | exact Below.refl _ _)) hb); clear HO_3; clear HB; have HO_3 := n0_; have HB := n1_; clear n0_ n1_; (try clear hb); (try clear hb2); (try clear hk); (try clear hi)) | ((with_reducible refine gate_dst (N := 34) rfl ?_); refine Kd.R_lit k92 _ 92 ?hg (N := 34) ?hd (xs := ([(⟨wrap64 (x4_1), wrap64 (x4_1)⟩ : S92), (⟨wrap64 ((wrap64 ((wrap64 (x4_1)) + 97)) - 65), wrap64 ((wrap64 ((wrap64 (x4_1)) + 97)) - 65)⟩ : S92)] : List (S92))) (inner := [.int .i64 (wrap64 (x4_1)), .int .i64 (wrap64 (x4_1)), .int .i64 (wrap64 ((wrap64 ((wrap64 (x4_1)) + 97)) - 65)), .int .i64 (wrap64 ((wrap64 ((wrap64 (x4_1)) + 97)) - 65))]) (ok := fun _ => True) (okp := fun _ => True) ?hr ?hp (fun _ hk => hk) trivial (Below.refl _ _) (Nat.le_refl _) (by simp) ?_; (case hd => rfl); (case hg => rfl); (case hr => first | (go_simp; done) | (go_simp; rfl)); (case hp => exact (Reps.c2 (show Kd.M k92 _ _ _ (⟨wrap64 (x4_1), wrap64 (x4_1)⟩ : S92) [.int .i64 (wrap64 (x4_1)), .int .i64 (wrap64 (x4_1))] from (k92_mkM _ _ _ (⟨wrap64 (x4_1), wrap64 (x4_1)⟩ : S92) )) (Reps.c2 (show Kd.M k92 _ _ _ (⟨wrap64 ((wrap64 ((wrap64 (x4_1)) + 97)) - 65), wrap64 ((wrap64 ((wrap64 (x4_1)) + 97)) - 65)⟩ : S92) [.int .i64 (wrap64 ((wrap64 ((wrap64 (x4_1)) + 97)) - 65)), .int .i64 (wrap64 ((wrap64 ((wrap64 (x4_1)) + 97)) - 65))] from (k92_mkM _ _ _ (⟨wrap64 ((wrap64 ((wrap64 (x4_1)) + 97)) - 65), wrap64 ((wrap64 ((wrap64 (x4_1)) + 97)) - 65)⟩ : S92) )) (Reps.none _ _)))); intro v337 w18 ho19 hb hg_ hnew_; clear hg_ hnew_; (first | rw [← Ny336.out] at ho19 | (simp only [Int.reduceToNat] at ho19; rw [← Ny336.out] at ho19)); have n0_ := Aside0.mk (Kd.R_elder' (by (with_reducible repeat (first | apply Kd.R_alloc | apply Kd.R_drewN | apply Kd.R_drew)); exact HO_3.out) (Kd.R_base ho19) hb); have n1_ := Aside0.mk (Kd.R_lower (Kd.R_new' ho19 (Kd.R_lt (by (with_reducible repeat (first | apply Kd.R_alloc | apply Kd.R_drewN | apply Kd.R_drew)); exact HO_3.out))) (below_size (by repeat (first | (with_reducible first | exact HB.out | apply below_alloc | apply pw_below_drewN | apply below_drew1) | exact HB.out | exact Below.refl _ _)))); have n2_ := Aside0.mk (below_step (by repeat (first | (with_reducible first | exact HB.out | apply below_alloc | apply pw_below_drewN | apply below_drew1) | exact HB.out | exact Below.refl _ _)) hb); clear HO_3; clear HB; have HO_3 := n0_; have HO338 := n1_; have HB := n2_; clear n0_ n1_ n2_; clear hb ho19; obtain ⟨Ao21, co21, eo21⟩ := Kd.R_slice HO338.out; subst eo21) | ((with_reducible refine gate_builtin (b := .append) (xs := #[.tmp 27, .tmp 34]) rfl ?_); at_builtin; refine Kd.R_append_rows k92 (w0 := w) w.heap.size rfl (.tmp 27) (.tmp 34) 89 92 (.agg #[(.int .i64 0), (.int .i64 0)]) 16 rfl Try.underlying89 info92 rfl (by decide) (by omega) u3 x3_1 y336 _ _ _ (fun k_ => some k_ ≠ (.slice Ao21 y336.length co21 : Value).ownBlock) (fun _ => False) rfl rfl ?aO ?aR (fun _ _ h => h) (fun _ h => h.elim) ?aF ?aB ?aS ?aL ?_; (case aR => repeat (first | exact (Kd.R_reads' HO338.out).2.2 | (with_reducible refine Kd.C_alloc ?_ _) | (with_reducible refine Kd.C_drewN ?_ _) | (with_reducible refine Kd.C_drew ?_))); (case aB => exact (by repeat (first | (with_reducible first | exact HB.out | apply below_alloc | apply pw_below_drewN | apply below_drew1) | exact HB.out | exact Below.refl _ _))); (case aF => exact (fun k_ hk => Kd.fresh' (Kd.R_lt (by (with_reducible repeat (first | apply Kd.R_alloc | apply Kd.R_drewN | apply Kd.R_drew)); exact HO338.out)) k_ hk)); (case aO => exact (by (with_reducible repeat (first | apply Kd.R_alloc | apply Kd.R_drewN | apply Kd.R_drew)); exact Kd.R_mono HO_3.out (fun _ hk => hk.2))); (case aS => exact (below_size (by repeat (first | (with_reducible first | exact HB.out | apply below_alloc | apply pw_below_drewN | apply below_drew1) | exact HB.out | exact Below.refl _ _)))); (case aL => have := LMc15.out; omega); intro v340 w20 ho hb hg hat; rw [← Ny339.out] at ho; have n0_ := Aside0.mk (Kd.R_after (ok := (fun _ => True)) (by (with_reducible repeat (first | apply Kd.R_alloc | apply Kd.R_drewN | apply Kd.R_drew)); exact HO338.out) hg hat); have n1_ := Aside0.mk (hb); have n2_ := Aside0.mk (ho); clear HO338; clear HB; clear HO_3; have HO338 := n0_; have HB := n1_; have HO341 := n2_; clear n0_ n1_ n2_; clear ho hb hg hat))
              go_roundg k1
              case measure => have := HK1.out; omega
              case rel => exact ⟨(y339), (wrap32 (x4_1 + 1)), (by first | rfl | (simp; done) | (simp [*]; done)), H', ⟨by have := HK1.out; omega⟩, ⟨by (with_reducible repeat (first | apply Kd.R_alloc | apply Kd.R_drewN | apply Kd.R_drew)); exact Kd.R_mono HO341.out (fun _ hk => trivial)⟩, ⟨by repeat (first | (with_reducible first | exact HB.out | apply below_alloc | apply pw_below_drewN | apply below_drew1) | exact HB.out | exact Below.refl _ _)⟩⟩
            · rw [if_neg c15] at H
              exact absurd H (by simp)
          · replace c14 := Bool.eq_false_iff.mpr c14
            subst c14
            have H1 : (impl_foldSet.l0 k1 l0 x3_1 (wrap32 (x4_1 + 1))) = some r := by rw [if_neg (show ¬ (false = true) by decide)] at H; exact H
            clear H
            have H := H1
            clear H1
            have H' := Aside0.mk H
            clear H
            go_wp2_with (first | ((with_reducible refine gate_callee (f := 103) rfl ?_); refine goesL_ (some 21) rfl rfl Try.func103 (by kernel_rfl) rfl #[.slice A0 l0.length c0, .int .i64 (wrap64 (x4_1))] rfl (by (try simp only [List.map_toArray, List.map_cons, List.map_nil]); first | done | rfl | (simp only [List.length_drop, List.length_take]; rfl)) ?_; (with_reducible refine (impl_inSet.calls k1 _ _ l0 (wrap64 (x4_1)) false _ ?side1 ?side2 A5.out).mono ?_); (case side1 => repeat (first | exact (Kd.C_below HR0.out HB.out) | exact HR0.out | (with_reducible refine Kd.C_alloc ?_ _) | (with_reducible refine Kd.C_drewN ?_ _) | (with_reducible refine Kd.C_drew ?_))); (case side2 => exact HC0.out); rintro e w22 ⟨rfl, hb⟩; refine ⟨_, rfl, ?_⟩; have n0_ := Aside0.mk (Kd.R_below (by (with_reducible repeat (first | apply Kd.R_alloc | apply Kd.R_drewN | apply Kd.R_drew)); exact HO_3.out) hb); have n1_ := Aside0.mk (below_step (by repeat (first | (with_reducible first | exact HB.out | apply below_alloc | apply pw_below_drewN | apply below_drew1) | exact HB.out | exact Below.refl _ _)) hb); clear HO_3; clear HB; have HO_3 := n0_; have HB := n1_; clear n0_ n1_; (try clear hb); (try clear hb2); (try clear hk); (try clear hi)) | (go_at_call 103; (with_reducible refine (impl_inSet.calls k1 _ _ l0 (wrap64 ((wrap64 ((wrap64 (x4_1)) + 97)) - 65)) false _ ?side1 ?side2 A13.out).mono ?_); (case side1 => repeat (first | exact (Kd.C_below HR0.out HB.out) | exact HR0.out | (with_reducible refine Kd.C_alloc ?_ _) | (with_reducible refine Kd.C_drewN ?_ _) | (with_reducible refine Kd.C_drew ?_))); (case side2 => exact HC0.out); rintro e w23 ⟨rfl, hb⟩; have n0_ := Aside0.mk (Kd.R_below (by (with_reducible repeat (first | apply Kd.R_alloc | apply Kd.R_drewN | apply Kd.R_drew)); exact HO_3.out) hb); have n1_ := Aside0.mk (below_step (by repeat (first | (with_reducible first | exact HB.out | apply below_alloc | apply pw_below_drewN | apply below_drew1) | exact HB.out | exact Below.refl _ _)) hb); clear HO_3; clear HB; have HO_3 := n0_; have HB := n1_; clear n0_ n1_; (try clear hb); (try clear hb2); (try clear hk); (try clear hi)))
            go_roundg k1
            case measure => have := HK1.out; omega
            case rel => exact ⟨(x3_1), (wrap32 (x4_1 + 1)), (by first | rfl | (simp; done) | (simp [*]; done)), H', ⟨by have := HK1.out; omega⟩, ⟨by (with_reducible repeat (first | apply Kd.R_alloc | apply Kd.R_drewN | apply Kd.R_drew)); exact HO_3.out⟩, ⟨by repeat (first | (with_reducible first | exact HB.out | apply below_alloc | apply pw_below_drewN | apply below_drew1) | exact HB.out | exact Below.refl _ _)⟩⟩
      · rw [if_neg c4] at H
        have c4b0 : decide (x4_1 ≤ 90) = false := decide_eq_false c4
        clear c4
        replace H := Option.bind_eq_some_iff.mp H
        obtain ⟨⟨t324, t327⟩, A240, H⟩ := H
        replace H : (some t324) = some r := H
        have A24 := Aside0.mk A240
        clear A240
        obtain rfl := Option.some.inj H
        obtain ⟨Ao25, co25, eo25⟩ := Kd.R_slice HO_3.out
        subst eo25
        go_wp2_with (first | ((with_reducible refine gate_callee (f := 104) rfl ?_); refine goesL_ (some 37) rfl rfl Try.func104 (by kernel_rfl) rfl #[.slice Ao25 x3_1.length co25] rfl (by (try simp only [List.map_toArray, List.map_cons, List.map_nil]); first | done | rfl | (simp only [List.length_drop, List.length_take]; rfl)) ?_; (with_reducible refine (impl_setOf.calls k1 (fun k_ => some k_ = (.slice Ao25 x3_1.length co25 : Value).ownBlock) (.slice Ao25 x3_1.length co25) x3_1 t324 t327 w _ ?side1 ?side2 A24.out).mono ?_); (case side1 => repeat (first | (with_reducible first | exact HB.out | apply below_alloc | apply pw_below_drewN | apply below_drew1) | exact HB.out | exact Below.refl _ _)); (case side2 => exact Kd.R_tight rfl HO_3.out); rintro e w26 ⟨v325, rfl, ho0, hy0, hb, hkp⟩; refine ⟨_, rfl, ?_⟩; have n0_ := Aside0.mk (Kd.R_reok rfl hy0 (fun k_ e_ => HO_3.out.1 k_ e_)); have n1_ := Aside0.mk (Kd.R_mono (ok' := fun k_ => True) ho0 (fun k_ hk_ => trivial)); have n2_ := Aside0.mk (hb); clear HO_3; clear HB; have HO_3 := n0_; have HO326 := n1_; have HB := n2_; clear n0_ n1_ n2_; (try clear hb); (try clear hkp); (try clear ho0); (try clear hy0)))
        go_ret
        exact ⟨_, by first | rfl | (simp [errW_none, errW_some] <;> rfl) | (simp [*, errW_none, errW_some] <;> rfl), by (with_reducible repeat (first | apply Kd.R_alloc | apply Kd.R_drewN | apply Kd.R_drew)); exact HO326.out, by repeat (first | (with_reducible first | exact HB.out | apply below_alloc | apply pw_below_drewN | apply below_drew1) | exact HB.out | exact Below.refl _ _)⟩

/-! ### impl_FoldRe: function 36 -/
def impl_FoldRe.l0 : Nat → List S49 → Int → Option (List S49)
  | 0, _, _ => none
  | k + 1, x, i => if i < (x.length : Int) then (if 0 ≤ i then (impl_foldSet.f k (rd_T49 x i).f1).bind fun t => impl_FoldRe.l0 k (x.set i.toNat ⟨(rd_T49 x i).f0, t⟩) (wrap64 (i + 1)) else none) else some x
theorem impl_FoldRe.mono_l : ∀ k, (∀ y0 y1, LeO (impl_FoldRe.l0 k y0 y1) (impl_FoldRe.l0 (k + 1) y0 y1))
  | 0 => fun _ _ r h => by simp [impl_FoldRe.l0] at h
  | k + 1 => by
    have ih0 := impl_FoldRe.mono_l k
    · intro y0 y1
      unfold impl_FoldRe.l0
      repeat' first
      | (with_reducible exact ih0 _ _)
      | (with_reducible exact impl_foldSet.mono _ _)
      | (with_reducible exact LeO.refl _)
      | (with_reducible exact LeO.none _)
      | (with_reducible refine LeO.ite ?_ ?_)
      | (with_reducible refine LeO.bind ?_ (fun _ => ?_))
def impl_FoldRe.f (k : Nat) (l0 : List S49) : Option (List S49 × Bool) := (impl_GoodRe.f k l0).bind fun b => if b = true then (impl_clonePat.f k l0).bind fun x => (impl_FoldRe.l0 k x 0).bind fun y => impl_goodPat.f k y else some ([], false)
theorem impl_FoldRe.mono : ∀ a0 k, LeO (impl_FoldRe.f k a0) (impl_FoldRe.f (k + 1) a0) := by
  intro a0 k
  unfold impl_FoldRe.f
  repeat' first
      | (with_reducible exact impl_GoodRe.mono _ _)
      | (with_reducible exact impl_clonePat.mono _ _)
      | (with_reducible exact impl_goodPat.mono _ _)
      | (with_reducible exact impl_FoldRe.mono_l _ _ _)
      | (with_reducible exact LeO.refl _)
      | (with_reducible refine LeO.ite ?_ ?_)
      | (with_reducible refine LeO.bind ?_ (fun _ => ?_))
set_option maxHeartbeats 8000000 in
set_option maxRecDepth 100000 in
theorem impl_FoldRe.calls (k : Nat) (A0 : Option Addr) (c0 : Nat) (l0 : List S49) (r1 : List S49) (r2 : Bool) (w : World) (hr0 : Kd.C k49 w A0 l0.length l0) (hc0 : l0.length ≤ c0) (h : impl_FoldRe.f k l0 = some (r1, r2)) :
    Calls Try.prog 36 #[.slice A0 l0.length c0] w fun e w' => ∃ v0_ : Value, e = .returned (.tuple #[v0_, .bool r2]) ∧ Kd.S k49 49 w' w.heap.size (fun _ => True) v0_ r1 ∧ Below w.heap.size w w' := by
  have hu49 := Try.underlying49
  unfold impl_FoldRe.f at h
  obtain ⟨b, hb0, h⟩ := Option.bind_eq_some_iff.mp h
  have HG := Aside0.mk (impl_GoodRe.calls k A0 c0 l0 b w hr0 hc0 hb0)
  have HA := Aside0.mk (fun (W : World) (hb : Below w.heap.size w W) => Kd.C_below hr0 hb)
  have HC0 := Aside0.mk hc0
  clear hr0 hc0 hb0
  cases b with
  | false =>
    rw [if_neg (by simp)] at h
    simp only [Option.some.injEq, Prod.mk.injEq] at h
    obtain ⟨rfl, rfl⟩ := h
    clear HA HC0
    go_enter Try.func36, Try.ntmps36
    go_wp2_with fail
    refine HG.out.mono ?_
    rintro e w1 ⟨rfl, hb⟩
    have HB := Aside0.mk hb
    clear hb HG
    go_wp2
    go_ret2
    exact ⟨_, rfl, Kd.S_nil _ _ _ _ _, HB.out⟩
  | true =>
    rw [if_pos rfl] at h
    obtain ⟨x, hx, h⟩ := Option.bind_eq_some_iff.mp h
    obtain ⟨y, hy, h⟩ := Option.bind_eq_some_iff.mp h
    have HX := Aside0.mk hx
    have HY := Aside0.mk hy
    have HR := Aside0.mk h
    clear hx hy h
    go_enter Try.func36, Try.ntmps36
    go_wp2_with fail
    refine HG.out.mono ?_
    rintro e w1 ⟨rfl, hb⟩
    have HB1 := Aside0.mk hb
    clear hb HG
    go_wp2_with fail
    refine (impl_clonePat.calls k A0 c0 l0 x w1 (HA.out w1 HB1.out) HC0.out HX.out).mono ?_
    rintro e w2 ⟨vo, rfl, ho, hb⟩
    obtain ⟨Ao, co, eo⟩ := Kd.S_slice ho
    subst eo
    have HO := Aside0.mk (Kd.S_lower ho HB1.out.size)
    have HB2 := Aside0.mk (HB1.out.trans (hb.mono HB1.out.size))
    clear ho hb HB1 HA HC0 HX
    go_wp2
    go_loopg [14] k (fun kq v14 w' => ∃ (x_1 : List S49) (i_1 : Int), v14 = .int .i64 i_1 ∧ Aside0 (impl_FoldRe.l0 kq x_1 i_1 = some y) ∧ Aside0 (kq ≤ k) ∧ Aside0 (x_1.length = x.length) ∧ Aside0 (Kd.S k49 49 w' w.heap.size (fun _ => True) (.slice Ao x.length co) x_1) ∧ Aside0 (Below w.heap.size w w'))
    case atStart => exact ⟨x, 0, rfl, HY, ⟨Nat.le_refl _⟩, ⟨rfl⟩, HO, HB2⟩
    case round =>
      clear HO HB2 HY
      obtain ⟨x_1, i_1, rfl, HH, HK1, HN, HO, HB⟩ := hrel
      cases gk with
      | zero => exact absurd HH.out (by simp [impl_FoldRe.l0])
      | succ k1 =>
        have H := HH.out
        clear HH
        simp only [impl_FoldRe.l0] at H
        by_cases c3 : i_1 < (x_1.length : Int)
        · rw [if_pos c3] at H
          have c3b0 : decide (i_1 < (x.length : Int)) = true := decide_eq_true (by have := HN.out; omega)
          by_cases c4 : 0 ≤ i_1
          · rw [if_pos c4] at H
            have c4b0 : decide (0 ≤ i_1) = true := decide_eq_true c4
            obtain ⟨t, ht, H⟩ := Option.bind_eq_some_iff.mp H
            have HT := Aside0.mk ht
            have H' := Aside0.mk H
            clear H ht
            have h1 : i_1 < (x.length : Int) := by have := HN.out; omega
            have hlen : 0 < x_1.length := by omega
            obtain ⟨g5, co5, eo5, gb5, gl5, cl5, HG5⟩ := Kd.S_form HO.out (by omega)
            injection eo5 with ea_ en_ ec_
            subst ea_ ec_
            clear en_
            obtain ⟨oki, cc, hcl, hM, hcc, hfr, hoki, hH⟩ := Kd.S_elem HO.out (⟨0, []⟩ : S49) i_1 c4 h1
            obtain ⟨vS, hce, hRS⟩ := k49_openM hM
            subst hce
            have hx0 : wr.cell? ⟨g5, i_1.toNat * 2, none⟩ = _ := hcc 0 _ rfl
            have hx1 : wr.cell? ⟨g5, i_1.toNat * 2 + 1, none⟩ = _ := hcc 1 _ rfl
            have erd : rd_T49 x_1 i_1 = x_1.getD i_1.toNat ⟨0, []⟩ := rfl
            rw [erd] at HT H'
            obtain ⟨As, cs, evs, hls, hCs⟩ := Kd.R_reads hRS
            subst evs
            have HCs := Aside0.mk (fun (W : World) (hb : Below wr.heap.size wr W) => Kd.C_below hCs hb)
            have HLs := Aside0.mk hls
            have GL5 := Aside0.mk gl5
            have GB5 := Aside0.mk gb5
            generalize hel : x_1.getD i_1.toNat ⟨0, []⟩ = el at *
            have HEL := Aside0.mk hel
            clear c3 hM hcc hfr hcl hH hRS hoki HG5 hCs hls erd gl5 gb5 hel
            go_wp2_with fail
            have HBa := Aside0.mk (below_alloc (Below.refl wr.heap.size wr) (Obj.cells #[.int .i64 el.f0, .slice As el.f1.length cs] 49))
            have HOa := Aside0.mk (Kd.S_below HO.out HBa.out)
            clear hx0 hx1 HO
            generalize wr.alloc (Obj.cells #[.int .i64 el.f0, .slice As el.f1.length cs] 49) = W0 at HBa HOa ⊢
            refine (impl_foldSet.calls k1 As cs el.f1 t W0 (HCs.out W0 HBa.out) HLs.out HT.out).mono ?_
            rintro e w9 ⟨v9, rfl, ho, hb⟩
            have hsz := HBa.out.size
            have hsw := HB.out.size
            have hg5 : g5 < W0.heap.size := Nat.lt_of_lt_of_le GL5.out hsz
            obtain ⟨oki, cc, hcl, hM, hcc, hfr, hoki, hH⟩ := Kd.S_elem (Kd.S_old HOa.out hb) (⟨0, []⟩ : S49) i_1 c4 h1
            rw [HEL.out] at hM
            obtain ⟨vS, hce, hRS⟩ := k49_openM hM
            subst hce
            have hx1 : w9.cell? ⟨g5, i_1.toNat * 2 + 1, none⟩ = _ := hcc 1 _ rfl
            have hf1 : w9.frozen? ⟨g5, i_1.toNat * 2 + 1, none⟩ = false := hfr 1
            obtain ⟨A9, c9, e9⟩ := Kd.R_slice ho
            subst e9
            obtain ⟨hS8, hg8⟩ := Kd.S_seg (okg := fun k_ => W0.heap.size ≤ k_) (seg := [.slice A9 t.length c9]) (j := 1) (x' := ⟨el.f0, t⟩) (okp := fun k_ => W0.heap.size ≤ k_) (Kd.H_mono hH (fun k hk => ⟨trivial, by have := hk.2; omega⟩)) c4 h1 (by show 1 + 1 ≤ 2; omega) (k49_mkM w9 w.heap.size _ ⟨el.f0, t⟩ (Kd.R_lower (Kd.R_mono (Kd.R_bound ho) (fun k hk => hk.2.1)) (Nat.le_trans hsw hsz))) (fun k hk => .inr hk) (fun k hk => ⟨trivial, by omega⟩)
            have HS8 := Aside0.mk (show Kd.S k49 49 (w9.setCell ⟨g5, i_1.toNat * 2 + 1, none⟩ (.slice A9 t.length c9)) w.heap.size (fun _ => True) (.slice (some ⟨g5, 0, none⟩) x.length co) (x_1.set i_1.toNat ⟨el.f0, t⟩) from hS8)
            have hB9 : Below w.heap.size w w9 := HB.out.trans ((HBa.out.trans (hb.mono hsz)).mono hsw)
            have HB8 := Aside0.mk (show Below w.heap.size w (w9.setCell ⟨g5, i_1.toNat * 2 + 1, none⟩ (.slice A9 t.length c9)) from below_set hB9 GB5.out)
            clear ho hb hsz hsw hg5 hcl hM hcc hfr hoki hH hRS hS8 hg8 hB9 HOa HBa HB HCs
            go_wp2
            go_roundg k1
            case measure => have := HK1.out; omega
            case rel => exact ⟨_, _, rfl, H', ⟨by have := HK1.out; omega⟩, ⟨by rw [List.length_set]; exact HN.out⟩, HS8, HB8⟩
          · rw [if_neg c4] at H
            exact absurd H (by simp)
        · rw [if_neg c3] at H
          have c3b0 : decide (i_1 < (x.length : Int)) = false := decide_eq_false (by have := HN.out; omega)
          clear c3
          obtain rfl := Option.some.inj H
          clear H
          go_wp2_with fail
          have hrd := Kd.S_reads' HO.out
          rw [hrd.1]
          refine (impl_goodPat.calls k Ao co x_1 r1 r2 wr hrd.2.2 (by have := hrd.2.1; have := hrd.1; omega) HR.out).mono ?_
          rintro e w9 ⟨v9, rfl, ho, hb⟩
          have hsw := HB.out.size
          have HO9 := Aside0.mk (Kd.S_lower ho hsw)
          have HB9 := Aside0.mk (HB.out.trans (hb.mono hsw))
          clear ho hb hsw hrd HO HB
          go_wp2
          go_ret2
          exact ⟨_, rfl, HO9.out, HB9.out⟩

end Go.Proofs.Ytlmpeaelpchokaa.HFnExactFoldRe
