/- Written by wip/pr.py of this session, for the law FnExactTidyRe: Lean functions with the answers of the program's, and the proofs of that; where the kit's print has no word, by hand. -/
import Derived.Test.YtlmpeaelpchokaaHFnExactTidyRex0
import Derived.Test.YtlmpeaelpchokaaHFnExactTidyRex1
import Derived.Test.YtlmpeaelpchokaaHFnExactTidyRex2
import Derived.Test.YtlmpeaelpchokaaHFnExactTidyRex3
import Derived.Test.YtlmpeaelpchokaaHFnExactTidyRex4
import Derived.Test.YtlmpeaelpchokaaHFnExactTidyRex12
import Derived.Test.YtlmpeaelpchokaaHFnExactTidyRex13
import Derived.Test.YtlmpeaelpchokaaHFnExactTidyRex14
import Derived.Test.YtlmpeaelpchokaaHFnExactTidyRex15
import Derived.Test.YtlmpeaelpchokaaHFnExactTidyRex18
namespace Go.Proofs.Ytlmpeaelpchokaa.HFnExactTidyRe
open Go.RowKit Go.Proofs.YtlmpeaelpchokaaW.PrintWords Go.Proofs.YtlmpeaelpchokaaW.PrintLast Go.Proofs.YtlmpeaelpchokaaW.PrintMore
attribute [local go_sem] max2_int min2_int max_two min_two max_three min_three max_four min_four   -- for this text's walks alone
set_option linter.unusedVariables false
set_option linter.unusedSimpArgs false

/-! ### impl_tidy: function 70 -/
def impl_tidy.f : Nat → List (S49) → Option ((List (S49)))
  | 0, _ => none
  | k + 1, l0 => (impl_split.f k l0).bind fun bt330 => ((impl_partsOf.f k bt330.1).bind fun t337 => (if t337 = 0 then (some l0) else (if t337 = 1 then ((impl_tidy.f k bt330.2.1).bind fun t338 => ((impl_tidied.f k bt330.1 t338 ([] : List (S49))).bind fun t341 => (some t341))) else ((impl_tidy.f k bt330.2.1).bind fun t344 => ((impl_tidy.f k bt330.2.2).bind fun t347 => ((impl_tidied.f k bt330.1 t344 t347).bind fun t350 => (some t350)))))))
theorem impl_tidy.mono_l : ∀ k, (∀ y0, LeO (impl_tidy.f k y0) (impl_tidy.f (k + 1) y0))
  | 0 => fun _ r h => by simp [impl_tidy.f] at h
  | k + 1 => by
    have ih0 := impl_tidy.mono_l k
    · intro y0
      unfold impl_tidy.f
      repeat' first
      | (with_reducible exact ih0 _)
      | (with_reducible exact impl_partsOf.mono _ _)
      | (with_reducible exact impl_split.mono _ _)
      | (with_reducible exact impl_tidied.mono _ _ _ _)
      | (with_reducible exact LeO.refl _)
      | (with_reducible exact LeO.none _)
      | (with_reducible refine LeO.ite ?_ ?_)
      | (with_reducible refine LeO.bind ?_ (fun _ => ?_))
      | exact ih0 _
      | exact impl_partsOf.mono _ _
      | exact impl_split.mono _ _
      | exact impl_tidied.mono _ _ _ _
      | exact LeO.none _
      | refine LeO.ite ?_ ?_
      | refine LeO.bind ?_ (fun _ => ?_)
theorem impl_tidy.mono : ∀ a0 k, LeO (impl_tidy.f k a0) (impl_tidy.f (k + 1) a0) := by
  intro a0 k
  have ih0 := impl_tidy.mono_l k
  exact ih0 a0
set_option maxHeartbeats 8000000 in
set_option maxRecDepth 100000 in
theorem impl_tidy.calls (k : Nat) : ∀ (P0_ : Nat → Prop) (A0 : Option Addr) (c0 : Nat) (l0 : List (S49)) (r : List (S49)) (w : World) (hs0 : Kd.V k49 49 w w.heap.size (fun k_ => P0_ k_) (.slice A0 l0.length c0) l0) (h : impl_tidy.f k l0 = some r),
    Calls Try.prog 70 #[.slice A0 l0.length c0] w fun e w' => ∃ v0_ : Value, e = .returned (v0_) ∧ Kd.V k49 49 w' w.heap.size (fun k_ => (P0_ k_ ∨ w.heap.size ≤ k_)) v0_ r ∧ Below w.heap.size w w' := by
  induction k using Nat.strongRecOn with
  | _ k ih =>
  intro P0_ A0 c0 l0 r w hs0 h
  cases k with
  | zero => exact absurd h (by simp [impl_tidy.f])
  | succ k =>
  simp only [impl_tidy.f] at h
  have HO0 := Aside0.mk (show Kd.V k49 49 w w.heap.size (fun k_ => (P0_ k_ ∨ w.heap.size ≤ k_)) (.slice A0 l0.length c0) l0 from Kd.V_mono hs0 (fun k_ hk => .inl hk))
  have HB := Aside0.mk (Below.refl w.heap.size w)
  have H : ((impl_split.f k l0).bind fun bt330 => ((impl_partsOf.f k bt330.1).bind fun t337 => (if t337 = 0 then (some l0) else (if t337 = 1 then ((impl_tidy.f k bt330.2.1).bind fun t338 => ((impl_tidied.f k bt330.1 t338 ([] : List (S49))).bind fun t341 => (some t341))) else ((impl_tidy.f k bt330.2.1).bind fun t344 => ((impl_tidy.f k bt330.2.2).bind fun t347 => ((impl_tidied.f k bt330.1 t344 t347).bind fun t350 => (some t350)))))))) = some r := h
  clear h
  replace H := Option.bind_eq_some_iff.mp H
  obtain ⟨⟨t330, t331, t334⟩, A20, H⟩ := H
  replace H : ((impl_partsOf.f k t330).bind fun t337 => (if t337 = 0 then (some l0) else (if t337 = 1 then ((impl_tidy.f k t331).bind fun t338 => ((impl_tidied.f k t330 t338 ([] : List (S49))).bind fun t341 => (some t341))) else ((impl_tidy.f k t331).bind fun t344 => ((impl_tidy.f k t334).bind fun t347 => ((impl_tidied.f k t330 t344 t347).bind fun t350 => (some t350))))))) = some r := H
  have A2 := Aside0.mk A20
  clear A20
  replace H := Option.bind_eq_some_iff.mp H
  obtain ⟨t337, A30, H⟩ := H
  replace H : (if t337 = 0 then (some l0) else (if t337 = 1 then ((impl_tidy.f k t331).bind fun t338 => ((impl_tidied.f k t330 t338 ([] : List (S49))).bind fun t341 => (some t341))) else ((impl_tidy.f k t331).bind fun t344 => ((impl_tidy.f k t334).bind fun t347 => ((impl_tidied.f k t330 t344 t347).bind fun t350 => (some t350)))))) = some r := H
  have A3 := Aside0.mk A30
  clear A30
  by_cases c4 : t337 = 0
  · rw [if_pos c4] at H
    have c4b0 : (t337 == 0) = true := beq_iff_eq.mpr c4
    have c4b1 : (t337 != 0) = false := bne_eq_false_iff_eq.mpr c4
    clear c4
    obtain rfl := Option.some.inj H
    go_enter Try.func70, Try.ntmps70
    go_wp2_with (first | ((with_reducible refine gate_callee (f := 95) rfl ?_); refine goesL_ (some 8) rfl rfl Try.func95 (by kernel_rfl) rfl #[.slice A0 l0.length c0] rfl (by (try simp only [List.map_toArray, List.map_cons, List.map_nil]); first | done | rfl | (simp only [List.length_drop, List.length_take]; rfl)) ?_; (with_reducible refine (impl_split.calls k (fun k_ => (P0_ k_ ∨ w.heap.size ≤ k_)) _ _ l0 t330 t331 t334 _ ?side1 A2.out).mono ?_); (case side1 => exact HO0.out); rintro e w5 ⟨v332, v335, rfl, ho0, ho1, hb⟩; refine ⟨_, rfl, ?_⟩; have n0_ := Aside0.mk (Kd.V_below (by (with_reducible repeat (first | apply Kd.V_alloc | apply Kd.V_drewN | apply Kd.V_drew)); exact HO0.out) hb); have n1_ := Aside0.mk (Kd.V_lower (Kd.V_mono (ok' := fun k_ => (P0_ k_ ∨ w.heap.size ≤ k_)) ho0 (fun k_ hk_ => Or.elim hk_ (fun hs_ => hs_) (fun hn_ => (.inr (Nat.le_trans (below_size (by repeat (first | (with_reducible first | exact HB.out | apply below_alloc | apply pw_below_drewN | apply below_drew1) | exact HB.out | exact Below.refl _ _))) hn_))))) (below_size (by repeat (first | (with_reducible first | exact HB.out | apply below_alloc | apply pw_below_drewN | apply below_drew1) | exact HB.out | exact Below.refl _ _)))); have n2_ := Aside0.mk (Kd.V_lower (Kd.V_mono (ok' := fun k_ => (P0_ k_ ∨ w.heap.size ≤ k_)) ho1 (fun k_ hk_ => Or.elim hk_ (fun hs_ => hs_) (fun hn_ => (.inr (Nat.le_trans (below_size (by repeat (first | (with_reducible first | exact HB.out | apply below_alloc | apply pw_below_drewN | apply below_drew1) | exact HB.out | exact Below.refl _ _))) hn_))))) (below_size (by repeat (first | (with_reducible first | exact HB.out | apply below_alloc | apply pw_below_drewN | apply below_drew1) | exact HB.out | exact Below.refl _ _)))); have n3_ := Aside0.mk (below_step (by repeat (first | (with_reducible first | exact HB.out | apply below_alloc | apply pw_below_drewN | apply below_drew1) | exact HB.out | exact Below.refl _ _)) hb); clear HO0; clear HB; have HO0 := n0_; have HO333 := n1_; have HO336 := n2_; have HB := n3_; clear n0_ n1_ n2_ n3_; (try clear hb); (try clear hb2); (try clear hk); (try clear hi); (try clear ho0); (try clear ho1)) | ((with_reducible refine gate_callee (f := 84) rfl ?_); refine goesL_ (some 13) rfl rfl Try.func84 (by kernel_rfl) rfl #[.int .i64 t330] rfl (by (try simp only [List.map_toArray, List.map_cons, List.map_nil]); first | done | rfl | (simp only [List.length_drop, List.length_take]; rfl)) ?_; (with_reducible refine (impl_partsOf.calls k t330 t337 _ A3.out).mono ?_); rintro e w' ⟨rfl, ⟨nd, rfl⟩⟩; refine ⟨_, rfl, ?_⟩))
    go_ret
    exact ⟨_, by first | rfl | (simp [errW_none, errW_some] <;> rfl) | (simp [*, errW_none, errW_some] <;> rfl), by (with_reducible repeat (first | apply Kd.V_alloc | apply Kd.V_drewN | apply Kd.V_drew)); exact HO0.out, by repeat (first | (with_reducible first | exact HB.out | apply below_alloc | apply pw_below_drewN | apply below_drew1) | exact HB.out | exact Below.refl _ _)⟩
  · rw [if_neg c4] at H
    have c4b0 : (t337 == 0) = false := beq_eq_false_iff_ne.mpr c4
    have c4b1 : (t337 != 0) = true := bne_iff_ne.mpr c4
    by_cases c6 : t337 = 1
    · rw [if_pos c6] at H
      have c6b0 : (t337 == 1) = true := beq_iff_eq.mpr c6
      have c6b1 : (t337 != 1) = false := bne_eq_false_iff_eq.mpr c6
      clear c6
      replace H := Option.bind_eq_some_iff.mp H
      obtain ⟨t338, A70, H⟩ := H
      replace H : ((impl_tidied.f k t330 t338 ([] : List (S49))).bind fun t341 => (some t341)) = some r := H
      have A7 := Aside0.mk A70
      clear A70
      replace H := Option.bind_eq_some_iff.mp H
      obtain ⟨t341, A80, H⟩ := H
      replace H : (some t341) = some r := H
      have A8 := Aside0.mk A80
      clear A80
      obtain rfl := Option.some.inj H
      go_enter Try.func70, Try.ntmps70
      go_wp2_with (first | ((with_reducible refine gate_callee (f := 95) rfl ?_); refine goesL_ (some 8) rfl rfl Try.func95 (by kernel_rfl) rfl #[.slice A0 l0.length c0] rfl (by (try simp only [List.map_toArray, List.map_cons, List.map_nil]); first | done | rfl | (simp only [List.length_drop, List.length_take]; rfl)) ?_; (with_reducible refine (impl_split.calls k (fun k_ => (P0_ k_ ∨ w.heap.size ≤ k_)) _ _ l0 t330 t331 t334 _ ?side1 A2.out).mono ?_); (case side1 => exact HO0.out); rintro e w9 ⟨v332, v335, rfl, ho0, ho1, hb⟩; refine ⟨_, rfl, ?_⟩; have n0_ := Aside0.mk (Kd.V_below (by (with_reducible repeat (first | apply Kd.V_alloc | apply Kd.V_drewN | apply Kd.V_drew)); exact HO0.out) hb); have n1_ := Aside0.mk (Kd.V_lower (Kd.V_mono (ok' := fun k_ => (P0_ k_ ∨ w.heap.size ≤ k_)) ho0 (fun k_ hk_ => Or.elim hk_ (fun hs_ => hs_) (fun hn_ => (.inr (Nat.le_trans (below_size (by repeat (first | (with_reducible first | exact HB.out | apply below_alloc | apply pw_below_drewN | apply below_drew1) | exact HB.out | exact Below.refl _ _))) hn_))))) (below_size (by repeat (first | (with_reducible first | exact HB.out | apply below_alloc | apply pw_below_drewN | apply below_drew1) | exact HB.out | exact Below.refl _ _)))); have n2_ := Aside0.mk (Kd.V_lower (Kd.V_mono (ok' := fun k_ => (P0_ k_ ∨ w.heap.size ≤ k_)) ho1 (fun k_ hk_ => Or.elim hk_ (fun hs_ => hs_) (fun hn_ => (.inr (Nat.le_trans (below_size (by repeat (first | (with_reducible first | exact HB.out | apply below_alloc | apply pw_below_drewN | apply below_drew1) | exact HB.out | exact Below.refl _ _))) hn_))))) (below_size (by repeat (first | (with_reducible first | exact HB.out | apply below_alloc | apply pw_below_drewN | apply below_drew1) | exact HB.out | exact Below.refl _ _)))); have n3_ := Aside0.mk (below_step (by repeat (first | (with_reducible first | exact HB.out | apply below_alloc | apply pw_below_drewN | apply below_drew1) | exact HB.out | exact Below.refl _ _)) hb); clear HO0; clear HB; have HO0 := n0_; have HO333 := n1_; have HO336 := n2_; have HB := n3_; clear n0_ n1_ n2_ n3_; (try clear hb); (try clear hb2); (try clear hk); (try clear hi); (try clear ho0); (try clear ho1)) | ((with_reducible refine gate_callee (f := 84) rfl ?_); refine goesL_ (some 13) rfl rfl Try.func84 (by kernel_rfl) rfl #[.int .i64 t330] rfl (by (try simp only [List.map_toArray, List.map_cons, List.map_nil]); first | done | rfl | (simp only [List.length_drop, List.length_take]; rfl)) ?_; (with_reducible refine (impl_partsOf.calls k t330 t337 _ A3.out).mono ?_); rintro e w' ⟨rfl, ⟨nd, rfl⟩⟩; refine ⟨_, rfl, ?_⟩; obtain ⟨Ao10, co10, eo10⟩ := Kd.V_slice HO333.out; subst eo10) | ((with_reducible refine gate_callee (f := 70) rfl ?_); refine goesL_ (some 21) rfl rfl Try.func70 (by kernel_rfl) rfl #[.slice Ao10 t331.length co10] rfl (by (try simp only [List.map_toArray, List.map_cons, List.map_nil]); first | done | rfl | (simp only [List.length_drop, List.length_take]; rfl)) ?_; (with_reducible refine (ih k (by omega) (fun k_ => (P0_ k_ ∨ w.heap.size ≤ k_)) _ _ t331 t338 _ ?side1 A7.out).mono ?_); (case side1 => exact HO333.out); rintro e w11 ⟨v339, rfl, ho0, hb⟩; refine ⟨_, rfl, ?_⟩; have n0_ := Aside0.mk (Kd.V_below (by (with_reducible repeat (first | apply Kd.V_alloc | apply Kd.V_drewN | apply Kd.V_drew)); exact HO0.out) hb); have n1_ := Aside0.mk (Kd.V_below (by (with_reducible repeat (first | apply Kd.V_alloc | apply Kd.V_drewN | apply Kd.V_drew)); exact HO333.out) hb); have n2_ := Aside0.mk (Kd.V_below (by (with_reducible repeat (first | apply Kd.V_alloc | apply Kd.V_drewN | apply Kd.V_drew)); exact HO336.out) hb); have n3_ := Aside0.mk (Kd.V_lower (Kd.V_mono (ok' := fun k_ => (P0_ k_ ∨ w.heap.size ≤ k_)) ho0 (fun k_ hk_ => Or.elim hk_ (fun hs_ => hs_) (fun hn_ => (.inr (Nat.le_trans (below_size (by repeat (first | (with_reducible first | exact HB.out | apply below_alloc | apply pw_below_drewN | apply below_drew1) | exact HB.out | exact Below.refl _ _))) hn_))))) (below_size (by repeat (first | (with_reducible first | exact HB.out | apply below_alloc | apply pw_below_drewN | apply below_drew1) | exact HB.out | exact Below.refl _ _)))); have n4_ := Aside0.mk (below_step (by repeat (first | (with_reducible first | exact HB.out | apply below_alloc | apply pw_below_drewN | apply below_drew1) | exact HB.out | exact Below.refl _ _)) hb); clear HO0; clear HO333; clear HO336; clear HB; have HO0 := n0_; have HO333 := n1_; have HO336 := n2_; have HO340 := n3_; have HB := n4_; clear n0_ n1_ n2_ n3_ n4_; (try clear hb); (try clear hb2); (try clear hk); (try clear hi); (try clear ho0); obtain ⟨Ao12, co12, eo12⟩ := Kd.V_slice HO340.out; subst eo12) | ((with_reducible refine gate_callee (f := 99) rfl ?_); refine goesL_ (some 22) rfl rfl Try.func99 (by kernel_rfl) rfl #[.int .i64 t330, .slice Ao12 t338.length co12, .slice none 0 0] rfl (by (try simp only [List.map_toArray, List.map_cons, List.map_nil]); first | done | rfl | (simp only [List.length_drop, List.length_take]; rfl)) ?_; (refine (impl_tidied.calls k t330 (fun k_ => (P0_ k_ ∨ w.heap.size ≤ k_)) _ _ t338 (fun k_ => False) _ _ ([] : List (S49)) t341 _ ?side1 ?side2 A8.out).mono ?_); (case side1 => exact HO340.out); (case side2 => exact Kd.V_nil _ _ _ _ _); rintro e w13 ⟨v342, rfl, ho0, hb⟩; refine ⟨_, rfl, ?_⟩; have n0_ := Aside0.mk (Kd.V_below (by (with_reducible repeat (first | apply Kd.V_alloc | apply Kd.V_drewN | apply Kd.V_drew)); exact HO0.out) hb); have n1_ := Aside0.mk (Kd.V_below (by (with_reducible repeat (first | apply Kd.V_alloc | apply Kd.V_drewN | apply Kd.V_drew)); exact HO333.out) hb); have n2_ := Aside0.mk (Kd.V_below (by (with_reducible repeat (first | apply Kd.V_alloc | apply Kd.V_drewN | apply Kd.V_drew)); exact HO336.out) hb); have n3_ := Aside0.mk (Kd.V_below (by (with_reducible repeat (first | apply Kd.V_alloc | apply Kd.V_drewN | apply Kd.V_drew)); exact HO340.out) hb); have n4_ := Aside0.mk (Kd.V_lower (Kd.V_mono (ok' := fun k_ => (P0_ k_ ∨ w.heap.size ≤ k_)) ho0 (fun k_ hk_ => Or.elim hk_ (fun hs_ => Or.elim hs_ (fun hs_ => hs_) (fun hs_ => (hs_).elim)) (fun hn_ => (.inr (Nat.le_trans (below_size (by repeat (first | (with_reducible first | exact HB.out | apply below_alloc | apply pw_below_drewN | apply below_drew1) | exact HB.out | exact Below.refl _ _))) hn_))))) (below_size (by repeat (first | (with_reducible first | exact HB.out | apply below_alloc | apply pw_below_drewN | apply below_drew1) | exact HB.out | exact Below.refl _ _)))); have n5_ := Aside0.mk (below_step (by repeat (first | (with_reducible first | exact HB.out | apply below_alloc | apply pw_below_drewN | apply below_drew1) | exact HB.out | exact Below.refl _ _)) hb); clear HO0; clear HO333; clear HO336; clear HO340; clear HB; have HO0 := n0_; have HO333 := n1_; have HO336 := n2_; have HO340 := n3_; have HO343 := n4_; have HB := n5_; clear n0_ n1_ n2_ n3_ n4_ n5_; (try clear hb); (try clear hb2); (try clear hk); (try clear hi); (try clear ho0)))
      go_ret
      exact ⟨_, by first | rfl | (simp [errW_none, errW_some] <;> rfl) | (simp [*, errW_none, errW_some] <;> rfl), by (with_reducible repeat (first | apply Kd.V_alloc | apply Kd.V_drewN | apply Kd.V_drew)); exact HO343.out, by repeat (first | (with_reducible first | exact HB.out | apply below_alloc | apply pw_below_drewN | apply below_drew1) | exact HB.out | exact Below.refl _ _)⟩
    · rw [if_neg c6] at H
      have c6b0 : (t337 == 1) = false := beq_eq_false_iff_ne.mpr c6
      have c6b1 : (t337 != 1) = true := bne_iff_ne.mpr c6
      replace H := Option.bind_eq_some_iff.mp H
      obtain ⟨t344, A140, H⟩ := H
      replace H : ((impl_tidy.f k t334).bind fun t347 => ((impl_tidied.f k t330 t344 t347).bind fun t350 => (some t350))) = some r := H
      have A14 := Aside0.mk A140
      clear A140
      replace H := Option.bind_eq_some_iff.mp H
      obtain ⟨t347, A150, H⟩ := H
      replace H : ((impl_tidied.f k t330 t344 t347).bind fun t350 => (some t350)) = some r := H
      have A15 := Aside0.mk A150
      clear A150
      replace H := Option.bind_eq_some_iff.mp H
      obtain ⟨t350, A160, H⟩ := H
      replace H : (some t350) = some r := H
      have A16 := Aside0.mk A160
      clear A160
      obtain rfl := Option.some.inj H
      go_enter Try.func70, Try.ntmps70
      go_wp2_with (first | ((with_reducible refine gate_callee (f := 95) rfl ?_); refine goesL_ (some 8) rfl rfl Try.func95 (by kernel_rfl) rfl #[.slice A0 l0.length c0] rfl (by (try simp only [List.map_toArray, List.map_cons, List.map_nil]); first | done | rfl | (simp only [List.length_drop, List.length_take]; rfl)) ?_; (with_reducible refine (impl_split.calls k (fun k_ => (P0_ k_ ∨ w.heap.size ≤ k_)) _ _ l0 t330 t331 t334 _ ?side1 A2.out).mono ?_); (case side1 => exact HO0.out); rintro e w17 ⟨v332, v335, rfl, ho0, ho1, hb⟩; refine ⟨_, rfl, ?_⟩; have n0_ := Aside0.mk (Kd.V_below (by (with_reducible repeat (first | apply Kd.V_alloc | apply Kd.V_drewN | apply Kd.V_drew)); exact HO0.out) hb); have n1_ := Aside0.mk (Kd.V_lower (Kd.V_mono (ok' := fun k_ => (P0_ k_ ∨ w.heap.size ≤ k_)) ho0 (fun k_ hk_ => Or.elim hk_ (fun hs_ => hs_) (fun hn_ => (.inr (Nat.le_trans (below_size (by repeat (first | (with_reducible first | exact HB.out | apply below_alloc | apply pw_below_drewN | apply below_drew1) | exact HB.out | exact Below.refl _ _))) hn_))))) (below_size (by repeat (first | (with_reducible first | exact HB.out | apply below_alloc | apply pw_below_drewN | apply below_drew1) | exact HB.out | exact Below.refl _ _)))); have n2_ := Aside0.mk (Kd.V_lower (Kd.V_mono (ok' := fun k_ => (P0_ k_ ∨ w.heap.size ≤ k_)) ho1 (fun k_ hk_ => Or.elim hk_ (fun hs_ => hs_) (fun hn_ => (.inr (Nat.le_trans (below_size (by repeat (first | (with_reducible first | exact HB.out | apply below_alloc | apply pw_below_drewN | apply below_drew1) | exact HB.out | exact Below.refl _ _))) hn_))))) (below_size (by repeat (first | (with_reducible first | exact HB.out | apply below_alloc | apply pw_below_drewN | apply below_drew1) | exact HB.out | exact Below.refl _ _)))); have n3_ := Aside0.mk (below_step (by repeat (first | (with_reducible first | exact HB.out | apply below_alloc | apply pw_below_drewN | apply below_drew1) | exact HB.out | exact Below.refl _ _)) hb); clear HO0; clear HB; have HO0 := n0_; have HO333 := n1_; have HO336 := n2_; have HB := n3_; clear n0_ n1_ n2_ n3_; (try clear hb); (try clear hb2); (try clear hk); (try clear hi); (try clear ho0); (try clear ho1)) | ((with_reducible refine gate_callee (f := 84) rfl ?_); refine goesL_ (some 13) rfl rfl Try.func84 (by kernel_rfl) rfl #[.int .i64 t330] rfl (by (try simp only [List.map_toArray, List.map_cons, List.map_nil]); first | done | rfl | (simp only [List.length_drop, List.length_take]; rfl)) ?_; (with_reducible refine (impl_partsOf.calls k t330 t337 _ A3.out).mono ?_); rintro e w' ⟨rfl, ⟨nd, rfl⟩⟩; refine ⟨_, rfl, ?_⟩; obtain ⟨Ao18, co18, eo18⟩ := Kd.V_slice HO333.out; subst eo18) | ((with_reducible refine gate_callee (f := 70) rfl ?_); refine goesL_ (some 25) rfl rfl Try.func70 (by kernel_rfl) rfl #[.slice Ao18 t331.length co18] rfl (by (try simp only [List.map_toArray, List.map_cons, List.map_nil]); first | done | rfl | (simp only [List.length_drop, List.length_take]; rfl)) ?_; (with_reducible refine (ih k (by omega) (fun k_ => (P0_ k_ ∨ w.heap.size ≤ k_)) _ _ t331 t344 _ ?side1 A14.out).mono ?_); (case side1 => exact HO333.out); rintro e w19 ⟨v345, rfl, ho0, hb⟩; refine ⟨_, rfl, ?_⟩; have n0_ := Aside0.mk (Kd.V_below (by (with_reducible repeat (first | apply Kd.V_alloc | apply Kd.V_drewN | apply Kd.V_drew)); exact HO0.out) hb); have n1_ := Aside0.mk (Kd.V_below (by (with_reducible repeat (first | apply Kd.V_alloc | apply Kd.V_drewN | apply Kd.V_drew)); exact HO333.out) hb); have n2_ := Aside0.mk (Kd.V_below (by (with_reducible repeat (first | apply Kd.V_alloc | apply Kd.V_drewN | apply Kd.V_drew)); exact HO336.out) hb); have n3_ := Aside0.mk (Kd.V_lower (Kd.V_mono (ok' := fun k_ => (P0_ k_ ∨ w.heap.size ≤ k_)) ho0 (fun k_ hk_ => Or.elim hk_ (fun hs_ => hs_) (fun hn_ => (.inr (Nat.le_trans (below_size (by repeat (first | (with_reducible first | exact HB.out | apply below_alloc | apply pw_below_drewN | apply below_drew1) | exact HB.out | exact Below.refl _ _))) hn_))))) (below_size (by repeat (first | (with_reducible first | exact HB.out | apply below_alloc | apply pw_below_drewN | apply below_drew1) | exact HB.out | exact Below.refl _ _)))); have n4_ := Aside0.mk (below_step (by repeat (first | (with_reducible first | exact HB.out | apply below_alloc | apply pw_below_drewN | apply below_drew1) | exact HB.out | exact Below.refl _ _)) hb); clear HO0; clear HO333; clear HO336; clear HB; have HO0 := n0_; have HO333 := n1_; have HO336 := n2_; have HO346 := n3_; have HB := n4_; clear n0_ n1_ n2_ n3_ n4_; (try clear hb); (try clear hb2); (try clear hk); (try clear hi); (try clear ho0); obtain ⟨Ao20, co20, eo20⟩ := Kd.V_slice HO336.out; subst eo20) | ((with_reducible refine gate_callee (f := 70) rfl ?_); refine goesL_ (some 27) rfl rfl Try.func70 (by kernel_rfl) rfl #[.slice Ao20 t334.length co20] rfl (by (try simp only [List.map_toArray, List.map_cons, List.map_nil]); first | done | rfl | (simp only [List.length_drop, List.length_take]; rfl)) ?_; (with_reducible refine (ih k (by omega) (fun k_ => (P0_ k_ ∨ w.heap.size ≤ k_)) _ _ t334 t347 _ ?side1 A15.out).mono ?_); (case side1 => exact HO336.out); rintro e w21 ⟨v348, rfl, ho0, hb⟩; refine ⟨_, rfl, ?_⟩; have n0_ := Aside0.mk (Kd.V_below (by (with_reducible repeat (first | apply Kd.V_alloc | apply Kd.V_drewN | apply Kd.V_drew)); exact HO0.out) hb); have n1_ := Aside0.mk (Kd.V_below (by (with_reducible repeat (first | apply Kd.V_alloc | apply Kd.V_drewN | apply Kd.V_drew)); exact HO333.out) hb); have n2_ := Aside0.mk (Kd.V_below (by (with_reducible repeat (first | apply Kd.V_alloc | apply Kd.V_drewN | apply Kd.V_drew)); exact HO336.out) hb); have n3_ := Aside0.mk (Kd.V_below (by (with_reducible repeat (first | apply Kd.V_alloc | apply Kd.V_drewN | apply Kd.V_drew)); exact HO346.out) hb); have n4_ := Aside0.mk (Kd.V_lower (Kd.V_mono (ok' := fun k_ => (P0_ k_ ∨ w.heap.size ≤ k_)) ho0 (fun k_ hk_ => Or.elim hk_ (fun hs_ => hs_) (fun hn_ => (.inr (Nat.le_trans (below_size (by repeat (first | (with_reducible first | exact HB.out | apply below_alloc | apply pw_below_drewN | apply below_drew1) | exact HB.out | exact Below.refl _ _))) hn_))))) (below_size (by repeat (first | (with_reducible first | exact HB.out | apply below_alloc | apply pw_below_drewN | apply below_drew1) | exact HB.out | exact Below.refl _ _)))); have n5_ := Aside0.mk (below_step (by repeat (first | (with_reducible first | exact HB.out | apply below_alloc | apply pw_below_drewN | apply below_drew1) | exact HB.out | exact Below.refl _ _)) hb); clear HO0; clear HO333; clear HO336; clear HO346; clear HB; have HO0 := n0_; have HO333 := n1_; have HO336 := n2_; have HO346 := n3_; have HO349 := n4_; have HB := n5_; clear n0_ n1_ n2_ n3_ n4_ n5_; (try clear hb); (try clear hb2); (try clear hk); (try clear hi); (try clear ho0); obtain ⟨Ao22, co22, eo22⟩ := Kd.V_slice HO346.out; subst eo22; obtain ⟨Ao23, co23, eo23⟩ := Kd.V_slice HO349.out; subst eo23) | ((with_reducible refine gate_callee (f := 99) rfl ?_); refine goesL_ (some 28) rfl rfl Try.func99 (by kernel_rfl) rfl #[.int .i64 t330, .slice Ao22 t344.length co22, .slice Ao23 t347.length co23] rfl (by (try simp only [List.map_toArray, List.map_cons, List.map_nil]); first | done | rfl | (simp only [List.length_drop, List.length_take]; rfl)) ?_; (with_reducible refine (impl_tidied.calls k t330 (fun k_ => (P0_ k_ ∨ w.heap.size ≤ k_)) _ _ t344 (fun k_ => (P0_ k_ ∨ w.heap.size ≤ k_)) _ _ t347 t350 _ ?side1 ?side2 A16.out).mono ?_); (case side1 => exact HO346.out); (case side2 => exact HO349.out); rintro e w24 ⟨v351, rfl, ho0, hb⟩; refine ⟨_, rfl, ?_⟩; have n0_ := Aside0.mk (Kd.V_below (by (with_reducible repeat (first | apply Kd.V_alloc | apply Kd.V_drewN | apply Kd.V_drew)); exact HO0.out) hb); have n1_ := Aside0.mk (Kd.V_below (by (with_reducible repeat (first | apply Kd.V_alloc | apply Kd.V_drewN | apply Kd.V_drew)); exact HO333.out) hb); have n2_ := Aside0.mk (Kd.V_below (by (with_reducible repeat (first | apply Kd.V_alloc | apply Kd.V_drewN | apply Kd.V_drew)); exact HO336.out) hb); have n3_ := Aside0.mk (Kd.V_below (by (with_reducible repeat (first | apply Kd.V_alloc | apply Kd.V_drewN | apply Kd.V_drew)); exact HO346.out) hb); have n4_ := Aside0.mk (Kd.V_below (by (with_reducible repeat (first | apply Kd.V_alloc | apply Kd.V_drewN | apply Kd.V_drew)); exact HO349.out) hb); have n5_ := Aside0.mk (Kd.V_lower (Kd.V_mono (ok' := fun k_ => (P0_ k_ ∨ w.heap.size ≤ k_)) ho0 (fun k_ hk_ => Or.elim hk_ (fun hs_ => Or.elim hs_ (fun hs_ => hs_) (fun hs_ => hs_)) (fun hn_ => (.inr (Nat.le_trans (below_size (by repeat (first | (with_reducible first | exact HB.out | apply below_alloc | apply pw_below_drewN | apply below_drew1) | exact HB.out | exact Below.refl _ _))) hn_))))) (below_size (by repeat (first | (with_reducible first | exact HB.out | apply below_alloc | apply pw_below_drewN | apply below_drew1) | exact HB.out | exact Below.refl _ _)))); have n6_ := Aside0.mk (below_step (by repeat (first | (with_reducible first | exact HB.out | apply below_alloc | apply pw_below_drewN | apply below_drew1) | exact HB.out | exact Below.refl _ _)) hb); clear HO0; clear HO333; clear HO336; clear HO346; clear HO349; clear HB; have HO0 := n0_; have HO333 := n1_; have HO336 := n2_; have HO346 := n3_; have HO349 := n4_; have HO352 := n5_; have HB := n6_; clear n0_ n1_ n2_ n3_ n4_ n5_ n6_; (try clear hb); (try clear hb2); (try clear hk); (try clear hi); (try clear ho0)))
      go_ret
      exact ⟨_, by first | rfl | (simp [errW_none, errW_some] <;> rfl) | (simp [*, errW_none, errW_some] <;> rfl), by (with_reducible repeat (first | apply Kd.V_alloc | apply Kd.V_drewN | apply Kd.V_drew)); exact HO352.out, by repeat (first | (with_reducible first | exact HB.out | apply below_alloc | apply pw_below_drewN | apply below_drew1) | exact HB.out | exact Below.refl _ _)⟩

/-! ### impl_TidyRe: function 34 -/
def impl_TidyRe.f (k : Nat) (l0 : List (S49)) : Option ((List (S49)) × Bool) := (impl_GoodRe.f k l0).bind fun t353 => (if t353 = true then ((impl_tidy.f k l0).bind fun t354 => ((impl_clonePat.f k t354).bind fun t357 => (some (t357, true)))) else (some (([] : List (S49)), false)))
theorem impl_TidyRe.mono : ∀ a0 k, LeO (impl_TidyRe.f k a0) (impl_TidyRe.f (k + 1) a0) := by
  intro a0 k
  unfold impl_TidyRe.f
  repeat' first
      | (with_reducible exact impl_GoodRe.mono _ _)
      | (with_reducible exact impl_clonePat.mono _ _)
      | (with_reducible exact impl_tidy.mono _ _)
      | (with_reducible exact LeO.refl _)
      | (with_reducible exact LeO.none _)
      | (with_reducible refine LeO.ite ?_ ?_)
      | (with_reducible refine LeO.bind ?_ (fun _ => ?_))
      | exact impl_GoodRe.mono _ _
      | exact impl_clonePat.mono _ _
      | exact impl_tidy.mono _ _
      | exact LeO.none _
      | refine LeO.ite ?_ ?_
      | refine LeO.bind ?_ (fun _ => ?_)
set_option maxHeartbeats 8000000 in
set_option maxRecDepth 100000 in
theorem impl_TidyRe.calls (k : Nat) (A0 : Option Addr) (c0 : Nat) (l0 : List (S49)) (r1 : List (S49)) (r2 : Bool) (w : World) (hr0 : Kd.C k49 w A0 l0.length l0) (hc0 : l0.length ≤ c0) (h : impl_TidyRe.f k l0 = some (r1, r2)) :
    Calls Try.prog 34 #[.slice A0 l0.length c0] w fun e w' => ∃ v0_ : Value, e = .returned (.tuple #[v0_, .bool r2]) ∧ Kd.S k49 49 w' w.heap.size (fun _ => True) v0_ r1 ∧ Below w.heap.size w w' := by
  have HR0 := Aside0.mk hr0
  have HC0 := Aside0.mk hc0
  clear hr0 hc0
  have HB := Aside0.mk (Below.refl w.heap.size w)
  have H : ((impl_GoodRe.f k l0).bind fun t353 => (if t353 = true then ((impl_tidy.f k l0).bind fun t354 => ((impl_clonePat.f k t354).bind fun t357 => (some (t357, true)))) else (some (([] : List (S49)), false)))) = some (r1, r2) := h
  clear h
  replace H := Option.bind_eq_some_iff.mp H
  obtain ⟨t353, A20, H⟩ := H
  replace H : (if t353 = true then ((impl_tidy.f k l0).bind fun t354 => ((impl_clonePat.f k t354).bind fun t357 => (some (t357, true)))) else (some (([] : List (S49)), false))) = some (r1, r2) := H
  have A2 := Aside0.mk A20
  clear A20
  by_cases c3 : t353 = true
  · subst c3
    have H1 : ((impl_tidy.f k l0).bind fun t354 => ((impl_clonePat.f k t354).bind fun t357 => (some (t357, true)))) = some (r1, r2) := by rw [if_pos rfl] at H; exact H
    clear H
    have H := H1
    clear H1
    replace H := Option.bind_eq_some_iff.mp H
    obtain ⟨t354, A40, H⟩ := H
    replace H : ((impl_clonePat.f k t354).bind fun t357 => (some (t357, true))) = some (r1, r2) := H
    have A4 := Aside0.mk A40
    clear A40
    replace H := Option.bind_eq_some_iff.mp H
    obtain ⟨t357, A50, H⟩ := H
    replace H : (some (t357, true)) = some (r1, r2) := H
    have A5 := Aside0.mk A50
    clear A50
    simp only [Option.some.injEq, Prod.mk.injEq] at H
    obtain ⟨rfl, rfl⟩ := H
    go_enter Try.func34, Try.ntmps34
    go_wp2_with (first | ((with_reducible refine gate_callee (f := 16) rfl ?_); refine goesL_ (some 5) rfl rfl Try.func16 (by kernel_rfl) rfl #[.slice A0 l0.length c0] rfl (by (try simp only [List.map_toArray, List.map_cons, List.map_nil]); first | done | rfl | (simp only [List.length_drop, List.length_take]; rfl)) ?_; (with_reducible refine (impl_GoodRe.calls k _ _ l0 true _ ?side1 ?side2 A2.out).mono ?_); (case side1 => repeat (first | exact HR0.out | (with_reducible refine Kd.C_alloc ?_ _) | (with_reducible refine Kd.C_drewN ?_ _) | (with_reducible refine Kd.C_drew ?_))); (case side2 => exact HC0.out); rintro e w6 ⟨rfl, hb⟩; refine ⟨_, rfl, ?_⟩; have n0_ := Aside0.mk (below_step (by repeat (first | (with_reducible first | exact HB.out | apply below_alloc | apply pw_below_drewN | apply below_drew1) | exact HB.out | exact Below.refl _ _)) hb); clear HB; have HB := n0_; clear n0_; (try clear hb); (try clear hb2); (try clear hk); (try clear hi)) | ((with_reducible refine gate_callee (f := 70) rfl ?_); refine goesL_ (some 8) rfl rfl Try.func70 (by kernel_rfl) rfl #[.slice A0 l0.length c0] rfl (by (try simp only [List.map_toArray, List.map_cons, List.map_nil]); first | done | rfl | (simp only [List.length_drop, List.length_take]; rfl)) ?_; (with_reducible refine (impl_tidy.calls k (fun k_ => k_ < w.heap.size) _ _ l0 t354 _ ?side1 A4.out).mono ?_); (case side1 => exact Kd.V_mk HC0.out (Kd.F_below (Kd.C_F k49_heap HR0.out) (by repeat (first | (with_reducible first | exact HB.out | apply below_alloc | apply pw_below_drewN | apply below_drew1) | exact HB.out | exact Below.refl _ _)))); rintro e w7 ⟨v355, rfl, ho0, hb⟩; refine ⟨_, rfl, ?_⟩; have n0_ := Aside0.mk (Kd.V_lower (Kd.V_mono (ok' := fun k_ => True) ho0 (fun k_ hk_ => trivial)) (below_size (by repeat (first | (with_reducible first | exact HB.out | apply below_alloc | apply pw_below_drewN | apply below_drew1) | exact HB.out | exact Below.refl _ _)))); have n1_ := Aside0.mk (below_step (by repeat (first | (with_reducible first | exact HB.out | apply below_alloc | apply pw_below_drewN | apply below_drew1) | exact HB.out | exact Below.refl _ _)) hb); clear HB; have HO356 := n0_; have HB := n1_; clear n0_ n1_; (try clear hb); (try clear hb2); (try clear hk); (try clear hi); (try clear ho0); obtain ⟨Ao8, co8, eo8⟩ := Kd.V_slice HO356.out; subst eo8) | ((with_reducible refine gate_callee (f := 69) rfl ?_); refine goesL_ (some 9) rfl rfl Try.func69 (by kernel_rfl) rfl #[.slice Ao8 t354.length co8] rfl (by (try simp only [List.map_toArray, List.map_cons, List.map_nil]); first | done | rfl | (simp only [List.length_drop, List.length_take]; rfl)) ?_; (with_reducible refine (impl_clonePat.calls k _ _ t354 t357 _ ?side1 ?side2 A5.out).mono ?_); (case side1 => repeat (first | exact (Kd.V_reads' HO356.out).2.2 | (with_reducible refine Kd.C_alloc ?_ _) | (with_reducible refine Kd.C_drewN ?_ _) | (with_reducible refine Kd.C_drew ?_))); (case side2 => exact (Kd.V_reads' HO356.out).2.1); rintro e w9 ⟨v358, rfl, ho0, hb⟩; refine ⟨_, rfl, ?_⟩; have n0_ := Aside0.mk (Kd.V_elder' (by (with_reducible repeat (first | apply Kd.V_alloc | apply Kd.V_drewN | apply Kd.V_drew)); exact HO356.out) (Kd.S_base ho0) hb); have n1_ := Aside0.mk (Kd.S_lower ho0 (below_size (by repeat (first | (with_reducible first | exact HB.out | apply below_alloc | apply pw_below_drewN | apply below_drew1) | exact HB.out | exact Below.refl _ _)))); have n2_ := Aside0.mk (below_step (by repeat (first | (with_reducible first | exact HB.out | apply below_alloc | apply pw_below_drewN | apply below_drew1) | exact HB.out | exact Below.refl _ _)) hb); clear HO356; clear HB; have HO356 := n0_; have HO359 := n1_; have HB := n2_; clear n0_ n1_ n2_; (try clear hb); (try clear hb2); (try clear hk); (try clear hi); (try clear ho0)))
    go_ret2
    exact ⟨_, by first | rfl | (simp [errW_none, errW_some] <;> rfl) | (simp [*, errW_none, errW_some] <;> rfl), by (with_reducible repeat (first | apply Kd.S_alloc | apply Kd.S_drewN | apply Kd.S_drew)); exact HO359.out, by repeat (first | (with_reducible first | exact HB.out | apply below_alloc | apply pw_below_drewN | apply below_drew1) | exact HB.out | exact Below.refl _ _)⟩
  · replace c3 := Bool.eq_false_iff.mpr c3
    subst c3
    have H1 : (some (([] : List (S49)), false)) = some (r1, r2) := by rw [if_neg (show ¬ (false = true) by decide)] at H; exact H
    clear H
    have H := H1
    clear H1
    simp only [Option.some.injEq, Prod.mk.injEq] at H
    obtain ⟨rfl, rfl⟩ := H
    go_enter Try.func34, Try.ntmps34
    go_wp2_with (first | ((with_reducible refine gate_callee (f := 16) rfl ?_); refine goesL_ (some 5) rfl rfl Try.func16 (by kernel_rfl) rfl #[.slice A0 l0.length c0] rfl (by (try simp only [List.map_toArray, List.map_cons, List.map_nil]); first | done | rfl | (simp only [List.length_drop, List.length_take]; rfl)) ?_; (with_reducible refine (impl_GoodRe.calls k _ _ l0 false _ ?side1 ?side2 A2.out).mono ?_); (case side1 => repeat (first | exact HR0.out | (with_reducible refine Kd.C_alloc ?_ _) | (with_reducible refine Kd.C_drewN ?_ _) | (with_reducible refine Kd.C_drew ?_))); (case side2 => exact HC0.out); rintro e w10 ⟨rfl, hb⟩; refine ⟨_, rfl, ?_⟩; have n0_ := Aside0.mk (below_step (by repeat (first | (with_reducible first | exact HB.out | apply below_alloc | apply pw_below_drewN | apply below_drew1) | exact HB.out | exact Below.refl _ _)) hb); clear HB; have HB := n0_; clear n0_; (try clear hb); (try clear hb2); (try clear hk); (try clear hi)))
    go_ret2
    exact ⟨_, by first | rfl | (simp [errW_none, errW_some] <;> rfl) | (simp [*, errW_none, errW_some] <;> rfl), by first | exact Kd.S_nil _ _ _ _ _ | exact Kd.N_nil _ _ _ _ _ | exact Kd.V_nil _ _ _ _ _ | exact Kd.Q_nil _ _ _ _ _ | exact Kd.R_nil _ _ _ _ _, by repeat (first | (with_reducible first | exact HB.out | apply below_alloc | apply pw_below_drewN | apply below_drew1) | exact HB.out | exact Below.refl _ _)⟩

/-! ### laws_FnExactTidyRe: function 9 -/
/-- The law's way where it returns true. -/
def laws_FnExactTidyRe.f (k : Nat) (l0 : List S48) : Option Bool :=
  (laws_szReS.f k l0 1048576).bind fun v => if v < 0 then some true else
  (laws_toReS.f k l0).bind fun x => (spec_TidyRe.f k x).bind fun s => (impl_TidyRe.f k x).bind fun g =>
  (laws_eqReS.f k g.1 s.1).bind fun e1 => (laws_eqReS.f k x x).bind fun e2 => (laws_markReS.f k x 1).bind fun m1 => (laws_markReS.f k g.1 1).bind fun m2 => (laws_heldReS.f k m2.2 1).bind fun q =>
  if e1 = true then if e2 = true then if g.2 = s.2 then if m1.1 < 0 then none else if q < 0 then none else if q = m2.1 then some true else none else none else none else none
set_option maxHeartbeats 8000000 in
set_option maxRecDepth 100000 in
theorem laws_FnExactTidyRe.calls (k : Nat) (A0 : Option Addr) (c0 : Nat) (l0 : List S48) (r : Bool) (w : World) (hr0 : Kd.C k48 w A0 l0.length l0) (hc0 : l0.length ≤ c0) (h : laws_FnExactTidyRe.f k l0 = some r) :
    Calls Try.prog 9 #[.slice A0 l0.length c0] w fun e w' => e = .returned (.bool r) ∧ Below w.heap.size w w' := by
  unfold laws_FnExactTidyRe.f at h
  obtain ⟨v, hv, h⟩ := Option.bind_eq_some_iff.mp h
  have HA := Aside0.mk (fun (W : World) (hb : Below w.heap.size w W) => Kd.C_below hr0 hb)
  have HSZ := Aside0.mk (laws_szReS.calls k A0 c0 l0 1048576 v w hr0 hc0 hv)
  have HC0 := Aside0.mk hc0
  clear hr0 hc0 hv
  by_cases hneg : v < 0
  · rw [if_pos hneg] at h
    obtain rfl := Option.some.inj h
    have hd : decide (v < 0) = true := decide_eq_true hneg
    clear h hneg HA HC0
    go_enter Try.func9, Try.ntmps9
    go_wp2_with (go_at_call 13; refine HSZ.out.mono ?_; rintro e w' ⟨rfl, hb⟩; have HB := Aside0.mk hb; clear hb)
    go_ret
    exact ⟨rfl, HB.out⟩
  · rw [if_neg hneg] at h
    have hd : decide (v < 0) = false := decide_eq_false hneg
    clear hneg
    obtain ⟨x, hx, h⟩ := Option.bind_eq_some_iff.mp h
    obtain ⟨⟨s, ok⟩, hs, h⟩ := Option.bind_eq_some_iff.mp h
    obtain ⟨⟨g, ok2⟩, hg, h⟩ := Option.bind_eq_some_iff.mp h
    obtain ⟨e1, he1, h⟩ := Option.bind_eq_some_iff.mp h
    obtain ⟨e2, he2, h⟩ := Option.bind_eq_some_iff.mp h
    obtain ⟨⟨m1, x'⟩, hm1, h⟩ := Option.bind_eq_some_iff.mp h
    obtain ⟨⟨m2, g'⟩, hm2, h⟩ := Option.bind_eq_some_iff.mp h
    obtain ⟨q, hq, h⟩ := Option.bind_eq_some_iff.mp h
    split at h
    case isFalse => cases h
    rename_i e1t
    split at h
    case isFalse => cases h
    rename_i e2t
    split at h
    case isFalse => cases h
    rename_i okt
    split at h
    case isTrue => cases h
    rename_i m1n
    split at h
    case isTrue => cases h
    rename_i qn
    split at h
    case isFalse => cases h
    rename_i qm
    obtain rfl := Option.some.inj h
    clear h
    subst e1t e2t qm
    have okt' : ok2 = ok := okt
    subst okt'
    have d1 : decide (m1 < 0) = false := decide_eq_false m1n
    have d2 : decide (q < 0) = false := decide_eq_false qn
    have HX := Aside0.mk hx
    have HS := Aside0.mk hs
    have HG := Aside0.mk hg
    have HE1 := Aside0.mk he1
    have HE2 := Aside0.mk he2
    have HM1 := Aside0.mk hm1
    have HM2 := Aside0.mk hm2
    have HQ := Aside0.mk hq
    clear hx hs hg he1 he2 hm1 hm2 hq okt m1n qn
    go_enter Try.func9, Try.ntmps9
    -- szReS
    go_wp2_with fail
    refine HSZ.out.mono ?_
    rintro e w1 ⟨rfl, hb⟩
    have HB1 := Aside0.mk hb
    clear hb HSZ
    -- toReS
    go_wp2_with fail
    refine (laws_toReS.calls k A0 c0 l0 x w1 (HA.out w1 HB1.out) HC0.out HX.out).mono ?_
    rintro e w2 ⟨v1, rfl, ho, hb⟩
    obtain ⟨A1, c1, hv1, hl1, hC1⟩ := Kd.S_reads ho
    subst hv1
    have HB2 := Aside0.mk (HB1.out.trans (hb.mono HB1.out.size))
    have HC1 := Aside0.mk hC1
    have HL1 := Aside0.mk hl1
    clear ho hb hC1 hl1 HB1
    -- spec
    go_wp2_with fail
    refine (spec_TidyRe.calls k A1 c1 x s ok2 w2 HC1.out HL1.out HS.out).mono ?_
    rintro e w3 ⟨vs, rfl, ho, hb⟩
    obtain ⟨As, cs, hvs, hls, hCs⟩ := (by first | exact Kd.N_reads ho | exact Kd.S_reads ho | exact Kd.R_reads ho)
    subst hvs
    have HB3 := Aside0.mk (HB2.out.trans (hb.mono HB2.out.size))
    have HCs := Aside0.mk (fun (W : World) (h : Below w3.heap.size w3 W) => Kd.C_below hCs h)
    have HLs := Aside0.mk hls
    clear ho hb hCs hls HB2 HC1 HL1
    -- toReS: x0
    go_wp2_with fail
    refine (laws_toReS.calls k A0 c0 l0 x w3 (HA.out w3 HB3.out) HC0.out HX.out).mono ?_
    rintro e w4 ⟨vx, rfl, ho, hb⟩
    have hz4 := hb.size
    have hsx := Kd.S_bound ho
    have hSx := Kd.S_mono hsx (ok' := fun k_ => w3.heap.size ≤ k_ ∧ k_ < w4.heap.size) (fun k_ h => ⟨h.2.1, h.2.2.1⟩)
    obtain ⟨Ax, cx, hvx, hlx, hCx⟩ := Kd.S_reads hSx
    subst hvx
    have HSx := Aside0.mk hSx
    have HB4 := Aside0.mk hb
    have HZ4 := Aside0.mk hz4
    have HCx := Aside0.mk hCx
    have HLx := Aside0.mk hlx
    clear ho hb hsx hSx hCx hlx hz4
    -- impl: g0
    go_wp2_with fail
    refine (impl_TidyRe.calls k Ax cx x g ok2 w4 HCx.out HLx.out HG.out).mono ?_
    rintro e w5 ⟨vg, rfl, ho, hb⟩
    have hSg := Kd.S_mono (Kd.S_bound ho) (ok' := fun k_ => w4.heap.size ≤ k_ ∧ k_ < w5.heap.size) (fun k_ h => ⟨h.2.1, h.2.2.1⟩)
    obtain ⟨Ag, cg, hvg, hlg, hCg⟩ := Kd.S_reads hSg
    subst hvg
    have HSx5 := Aside0.mk (Kd.S_below HSx.out hb)
    have HSg := Aside0.mk hSg
    have HZ5 := Aside0.mk hb.size
    have HB5 := Aside0.mk (HB4.out.trans (hb.mono HB4.out.size))
    have HCg := Aside0.mk hCg
    have HLg := Aside0.mk hlg
    clear ho hb hSg hCg hlg HSx HB4 HCx
    -- eqReS(g0, w0)
    go_wp2_with fail
    refine (laws_eqReS.calls k Ag cg g As cs s true w5 HCg.out HLg.out (HCs.out w5 HB5.out) HLs.out HE1.out).mono ?_
    rintro e w6 ⟨rfl, hb⟩
    have HSx6 := Aside0.mk (Kd.S_below HSx5.out hb)
    have HSg6 := Aside0.mk (Kd.S_below HSg.out hb)
    have HB6 := Aside0.mk (HB5.out.trans (hb.mono HB5.out.size))
    clear hb HSx5 HSg HB5 HCg
    -- toReS, eqReS(x0, ..)
    go_wp2_with fail
    refine (laws_toReS.calls k A0 c0 l0 x w6 (HA.out w6 (HB3.out.trans (HB6.out.mono HB3.out.size))) HC0.out HX.out).mono ?_
    rintro e w7 ⟨vt, rfl, ho, hb⟩
    obtain ⟨At, ct, hvt, hlt, hCt⟩ := Kd.S_reads ho
    subst hvt
    have HSx7 := Aside0.mk (Kd.S_below HSx6.out hb)
    have HSg7 := Aside0.mk (Kd.S_below HSg6.out hb)
    have HB7 := Aside0.mk (HB6.out.trans (hb.mono HB6.out.size))
    have HCt := Aside0.mk hCt
    have HLt := Aside0.mk hlt
    clear ho hb hCt hlt HSx6 HSg6 HB6
    go_wp2_with fail
    refine (laws_eqReS.calls k Ax cx x At ct x true w7 (Kd.S_reads' HSx7.out).2.2 HLx.out HCt.out HLt.out HE2.out).mono ?_
    rintro e w8 ⟨rfl, hb⟩
    have HSx8 := Aside0.mk (Kd.S_below HSx7.out hb)
    have HSg8 := Aside0.mk (Kd.S_below HSg7.out hb)
    have HB8 := Aside0.mk (HB7.out.trans (hb.mono HB7.out.size))
    clear hb HSx7 HSg7 HB7 HCt HLt
    -- markReS(x0)
    go_wp2_with fail
    refine (laws_markReS.calls k (fun k_ => w3.heap.size ≤ k_ ∧ k_ < w4.heap.size) _ x 1 m1 x' w3 w8 HB8.out HSx8.out HM1.out).mono ?_
    rintro e w9 ⟨rfl, _, hb, hk⟩
    have HSg9 := Aside0.mk (Kd.S_kept HSg8.out hk (fun k_ h1 h2 => by omega))
    have HB9 := Aside0.mk hb
    clear hb hk HSx8 HSg8 HB8
    -- eqReS(g0, w0)
    go_wp2_with fail
    refine (laws_eqReS.calls k Ag cg g As cs s true w9 (Kd.S_reads' HSg9.out).2.2 HLg.out (HCs.out w9 HB9.out) HLs.out HE1.out).mono ?_
    rintro e w10 ⟨rfl, hb⟩
    have HSg10 := Aside0.mk (Kd.S_below HSg9.out hb)
    have HB10 := Aside0.mk (HB9.out.trans (hb.mono HB9.out.size))
    clear hb HSg9 HB9
    -- markReS(g0)
    go_wp2_with fail
    refine (laws_markReS.calls k (fun k_ => w4.heap.size ≤ k_ ∧ k_ < w5.heap.size) _ g 1 q g' w3 w10 HB10.out (Kd.S_lower HSg10.out HZ4.out) HM2.out).mono ?_
    rintro e w11 ⟨rfl, ho, hb, hk⟩
    have hgl : g'.length = g.length := by have := (Kd.S_reads' ho).1; omega
    rw [← hgl] at ho
    have HSg11 := Aside0.mk ho
    have HLg' := Aside0.mk (show g'.length ≤ cg by rw [hgl]; exact HLg.out)
    have HGL := Aside0.mk hgl
    have HB11 := Aside0.mk hb
    clear hb hk ho hgl HSg10 HB10
    -- heldReS(g0)
    go_wp2_with fail
    rw [← HGL.out]
    refine (laws_heldReS.calls k Ag cg g' 1 q w11 (Kd.S_reads' HSg11.out).2.2 HLg'.out HQ.out).mono ?_
    rintro e w12 ⟨rfl, ⟨nd, rfl⟩⟩
    -- toReS, impl: h0
    go_wp2_with fail
    refine (laws_toReS.calls k A0 c0 l0 x _ (HA.out _ (HB3.out.trans ((pw_below_drewN HB11.out nd).mono HB3.out.size))) HC0.out HX.out).mono ?_
    rintro e w13 ⟨vt, rfl, ho, hb⟩
    obtain ⟨At, ct, hvt, hlt, hCt⟩ := Kd.S_reads ho
    subst hvt
    have hbd := pw_below_drewN (Below.refl w11.heap.size w11) nd
    have hb13 : Below w11.heap.size w11 w13 := hbd.trans (hb.mono hbd.size)
    have HSg13 := Aside0.mk (Kd.S_below HSg11.out hb13)
    have HB13 := Aside0.mk (HB11.out.trans (hb13.mono HB11.out.size))
    have HCt := Aside0.mk hCt
    have HLt := Aside0.mk hlt
    clear ho hb hbd hb13 hCt hlt HSg11 HB11
    go_wp2_with fail
    refine (impl_TidyRe.calls k At ct x g ok2 w13 HCt.out HLt.out HG.out).mono ?_
    rintro e w14 ⟨vh, rfl, ho, hb⟩
    obtain ⟨Ah, ch, hvh, hlh, hCh⟩ := Kd.S_reads ho
    subst hvh
    have HSg14 := Aside0.mk (Kd.S_below HSg13.out hb)
    have HB14 := Aside0.mk (HB13.out.trans (hb.mono HB13.out.size))
    have HCh := Aside0.mk hCh
    have HLh := Aside0.mk hlh
    clear ho hb hCh hlh HSg13 HB13 HCt HLt
    -- eqReS(h0, w0)
    go_wp2_with fail
    refine (laws_eqReS.calls k Ah ch g As cs s true w14 HCh.out HLh.out (HCs.out w14 HB14.out) HLs.out HE1.out).mono ?_
    rintro e w15 ⟨rfl, hb⟩
    have HSg15 := Aside0.mk (Kd.S_below HSg14.out hb)
    have HB15 := Aside0.mk (HB14.out.trans (hb.mono HB14.out.size))
    clear hb HSg14 HB14 HCh
    -- heldReS(g0)
    go_wp2_with fail
    refine (laws_heldReS.calls k Ag cg g' 1 q w15 (Kd.S_reads' HSg15.out).2.2 HLg'.out HQ.out).mono ?_
    rintro e w16 ⟨rfl, ⟨nd2, rfl⟩⟩
    go_wp2
    go_ret
    exact ⟨rfl, HB3.out.trans ((pw_below_drewN HB15.out nd2).mono HB3.out.size)⟩

end Go.Proofs.Ytlmpeaelpchokaa.HFnExactTidyRe
