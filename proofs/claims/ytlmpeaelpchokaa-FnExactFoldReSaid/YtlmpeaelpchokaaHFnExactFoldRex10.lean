/- Written by wip/pr.py of this session, for the law FnExactFoldRe: Lean functions with the answers of the program's, and the proofs of that; where the kit's print has no word, by hand. -/
import Derived.Test.YtlmpeaelpchokaaHFnExactFoldRex0
import Derived.Test.YtlmpeaelpchokaaHFnExactFoldRex7
import Derived.Test.YtlmpeaelpchokaaHFnExactFoldRex8
import Derived.Test.YtlmpeaelpchokaaHFnExactFoldRex9
namespace Go.Proofs.Ytlmpeaelpchokaa.HFnExactFoldRe
open Go.RowKit Go.Proofs.YtlmpeaelpchokaaW.PrintWords Go.Proofs.YtlmpeaelpchokaaW.PrintLast Go.Proofs.YtlmpeaelpchokaaW.PrintMore
attribute [local go_sem] max2_int min2_int max_two min_two max_three min_three max_four min_four   -- for this text's walks alone
set_option linter.unusedVariables false
set_option linter.unusedSimpArgs false

/-! ### spec_l4FoldSet: function 71 -/
mutual
def spec_l4FoldSet.l0 : Nat → List Int → List Int → Int → Option (List Int)
  | 0, _, _, _ => none
  | k + 1, x0, x3, x4 => if x4 ≤ 90 then ((spec_l4In.f k x0 x4).bind fun t236 => (if t236 = true then (spec_l4FoldSet.j1 k x0 x3 x4 true) else ((spec_l4In.f k x0 (wrap64 (x4 + 32))).bind fun t237 => (spec_l4FoldSet.j1 k x0 x3 x4 t237)))) else (some x3)
def spec_l4FoldSet.j1 : Nat → List Int → List Int → Int → Bool → Option (List Int)
  | 0, _, _, _, _ => none
  | k + 1, x0, x3, x4, x19 => if x19 = true then ((spec_l4Add.f k x3 x4 x4).bind fun t238 => ((spec_l4Add.f k t238 (wrap64 (x4 + 32)) (wrap64 (x4 + 32))).bind fun t241 => (spec_l4FoldSet.l0 k x0 t241 (wrap64 (x4 + 1))))) else (spec_l4FoldSet.l0 k x0 x3 (wrap64 (x4 + 1)))
end
def spec_l4FoldSet.f (k : Nat) (l0 : List Int) : Option (List Int) := (spec_l1Own.f l0).bind fun t233 => (spec_l4FoldSet.l0 k l0 t233 65)
theorem spec_l4FoldSet.mono_l : ∀ k, (∀ y0 y1 y2, LeO (spec_l4FoldSet.l0 k y0 y1 y2) (spec_l4FoldSet.l0 (k + 1) y0 y1 y2)) ∧ (∀ y0 y1 y2 y3, LeO (spec_l4FoldSet.j1 k y0 y1 y2 y3) (spec_l4FoldSet.j1 (k + 1) y0 y1 y2 y3))
  | 0 => ⟨fun _ _ _ r h => by simp [spec_l4FoldSet.l0] at h, fun _ _ _ _ r h => by simp [spec_l4FoldSet.j1] at h⟩
  | k + 1 => by
    obtain ⟨ih0, ih1⟩ := spec_l4FoldSet.mono_l k
    refine ⟨?_, ?_⟩
    · intro y0 y1 y2
      unfold spec_l4FoldSet.l0
      repeat' first
      | (with_reducible exact ih0 _ _ _)
      | (with_reducible exact ih1 _ _ _ _)
      | (with_reducible exact spec_l4Add.mono _ _ _ _)
      | (with_reducible exact spec_l4In.mono _ _ _)
      | (with_reducible exact LeO.refl _)
      | (with_reducible exact LeO.none _)
      | (with_reducible refine LeO.ite ?_ ?_)
      | (with_reducible refine LeO.bind ?_ (fun _ => ?_))
      | exact ih0 _ _ _
      | exact ih1 _ _ _ _
      | exact spec_l4Add.mono _ _ _ _
      | exact spec_l4In.mono _ _ _
      | exact LeO.none _
      | refine LeO.ite ?_ ?_
      | refine LeO.bind ?_ (fun _ => ?_)
    · intro y0 y1 y2 y3
      unfold spec_l4FoldSet.j1
      repeat' first
      | (with_reducible exact ih0 _ _ _)
      | (with_reducible exact ih1 _ _ _ _)
      | (with_reducible exact spec_l4Add.mono _ _ _ _)
      | (with_reducible exact spec_l4In.mono _ _ _)
      | (with_reducible exact LeO.refl _)
      | (with_reducible exact LeO.none _)
      | (with_reducible refine LeO.ite ?_ ?_)
      | (with_reducible refine LeO.bind ?_ (fun _ => ?_))
      | exact ih0 _ _ _
      | exact ih1 _ _ _ _
      | exact spec_l4Add.mono _ _ _ _
      | exact spec_l4In.mono _ _ _
      | exact LeO.none _
      | refine LeO.ite ?_ ?_
      | refine LeO.bind ?_ (fun _ => ?_)
theorem spec_l4FoldSet.mono : ∀ a0 k, LeO (spec_l4FoldSet.f k a0) (spec_l4FoldSet.f (k + 1) a0) := by
  intro a0 k
  obtain ⟨ih0, ih1⟩ := spec_l4FoldSet.mono_l k
  unfold spec_l4FoldSet.f
  repeat' first
      | (with_reducible exact ih0 _ _ _)
      | (with_reducible exact ih1 _ _ _ _)
      | (with_reducible exact spec_l4Add.mono _ _ _ _)
      | (with_reducible exact spec_l4In.mono _ _ _)
      | (with_reducible exact LeO.refl _)
      | (with_reducible exact LeO.none _)
      | (with_reducible refine LeO.ite ?_ ?_)
      | (with_reducible refine LeO.bind ?_ (fun _ => ?_))
      | exact ih0 _ _ _
      | exact ih1 _ _ _ _
      | exact spec_l4Add.mono _ _ _ _
      | exact spec_l4In.mono _ _ _
      | exact LeO.none _
      | refine LeO.ite ?_ ?_
      | refine LeO.bind ?_ (fun _ => ?_)
set_option maxHeartbeats 8000000 in
set_option maxRecDepth 100000 in
theorem spec_l4FoldSet.calls (k : Nat) (A0 : Option Addr) (c0 : Nat) (l0 : List Int) (r : List Int) (w : World) (hr0 : Kd.C (Kd.int .i64) w A0 l0.length l0) (hc0 : l0.length ≤ c0) (h : spec_l4FoldSet.f k l0 = some r) :
    Calls Try.prog 71 #[.slice A0 l0.length c0] w fun e w' => ∃ v0_ : Value, e = .returned (v0_) ∧ Kd.R (Kd.int .i64) 3 w' w.heap.size (fun _ => True) v0_ r ∧ Below w.heap.size w w' := by
  have HR0 := Aside0.mk hr0
  have HC0 := Aside0.mk hc0
  clear hr0 hc0
  have HB := Aside0.mk (Below.refl w.heap.size w)
  have H : ((spec_l1Own.f l0).bind fun t233 => (spec_l4FoldSet.l0 k l0 t233 65)) = some r := h
  clear h
  replace H := Option.bind_eq_some_iff.mp H
  obtain ⟨t233, A20, H⟩ := H
  replace H : (spec_l4FoldSet.l0 k l0 t233 65) = some r := H
  have A2 := Aside0.mk A20
  clear A20
  have H' := Aside0.mk H
  clear H
  go_enter Try.func71, Try.ntmps71
  go_wp2_with (first | ((with_reducible refine gate_callee (f := 93) rfl ?_); refine goesL_ (some 6) rfl rfl Try.func93 (by kernel_rfl) rfl #[.slice A0 l0.length c0] rfl (by (try simp only [List.map_toArray, List.map_cons, List.map_nil]); first | done | rfl | (simp only [List.length_drop, List.length_take]; rfl)) ?_; (with_reducible refine (spec_l1Own.calls _ _ l0 t233 _ ?side1 ?side2 A2.out).mono ?_); (case side1 => repeat (first | exact HR0.out | (with_reducible refine Kd.C_alloc ?_ _) | (with_reducible refine Kd.C_drewN ?_ _) | (with_reducible refine Kd.C_drew ?_))); (case side2 => exact HC0.out); rintro e w3 ⟨v234, rfl, ho0, hb⟩; refine ⟨_, rfl, ?_⟩; have n0_ := Aside0.mk (Kd.R_lower ho0 (below_size (by repeat (first | (with_reducible first | exact HB.out | apply below_alloc | apply pw_below_drewN | apply below_drew1) | exact HB.out | exact Below.refl _ _)))); have n1_ := Aside0.mk (below_step (by repeat (first | (with_reducible first | exact HB.out | apply below_alloc | apply pw_below_drewN | apply below_drew1) | exact HB.out | exact Below.refl _ _)) hb); clear HB; have HO235 := n0_; have HB := n1_; clear n0_ n1_; (try clear hb); (try clear hb2); (try clear hk); (try clear hi); (try clear ho0)))
  go_loopg [3, 4] k (fun kq v3 v4 w' => ∃ (x3_1 : List Int) (x4_1 : Int), v4 = .int .i64 x4_1 ∧ Aside0 (spec_l4FoldSet.l0 kq l0 x3_1 x4_1 = some r) ∧ Aside0 (kq ≤ k) ∧ Aside0 (Kd.R (Kd.int .i64) 3 w' w.heap.size (fun _ => True) v3 x3_1) ∧ Aside0 (Below w.heap.size w w'))
  case atStart => exact ⟨(t233), (65), (by first | rfl | (simp; done) | (simp [*]; done)), H', ⟨Nat.le_refl _⟩, ⟨by (with_reducible repeat (first | apply Kd.R_alloc | apply Kd.R_drewN | apply Kd.R_drew)); exact HO235.out⟩, ⟨by repeat (first | (with_reducible first | exact HB.out | apply below_alloc | apply pw_below_drewN | apply below_drew1) | exact HB.out | exact Below.refl _ _)⟩⟩
  case round =>
    clear H'
    try clear p2
    obtain ⟨x3_1, x4_1, rfl, HA, HK1, HO_3, HB⟩ := hrel
    cases gk with
    | zero => exact absurd HA.out (by simp [spec_l4FoldSet.l0])
    | succ k1 =>
      have H := HA.out
      clear HA
      simp only [spec_l4FoldSet.l0] at H
      by_cases c4 : x4_1 ≤ 90
      · rw [if_pos c4] at H
        have c4b0 : decide (x4_1 ≤ 90) = true := decide_eq_true c4
        clear c4
        have HC5 := Aside0.mk H
        clear H
        go_upto_region 5 with (fail)
        go_cut [19] (fun v19 wc => ∃ (kq : Nat) (x19_4 : Bool), v19 = .bool x19_4 ∧ Aside0 (spec_l4FoldSet.j1 kq l0 x3_1 x4_1 x19_4 = some r) ∧ Aside0 (kq ≤ k1) ∧ Aside0 (Kd.R (Kd.int .i64) 3 wc w.heap.size (fun _ => True) u3 x3_1) ∧ Aside0 (Below w.heap.size w wc))
        case first =>
          have H := HC5.out
          clear HC5
          replace H := Option.bind_eq_some_iff.mp H
          obtain ⟨t236, A60, H⟩ := H
          replace H : (if t236 = true then (spec_l4FoldSet.j1 k1 l0 x3_1 x4_1 true) else ((spec_l4In.f k1 l0 (wrap64 (x4_1 + 32))).bind fun t237 => (spec_l4FoldSet.j1 k1 l0 x3_1 x4_1 t237))) = some r := H
          have A6 := Aside0.mk A60
          clear A60
          by_cases c7 : t236 = true
          · subst c7
            have H1 : (spec_l4FoldSet.j1 k1 l0 x3_1 x4_1 true) = some r := by rw [if_pos rfl] at H; exact H
            clear H
            have H := H1
            clear H1
            have H' := Aside0.mk H
            clear H
            go_wp2_with (first | ((with_reducible refine gate_callee (f := 100) rfl ?_); refine goesL_ (some 13) rfl rfl Try.func100 (by kernel_rfl) rfl #[.slice A0 l0.length c0, .int .i64 x4_1] rfl (by (try simp only [List.map_toArray, List.map_cons, List.map_nil]); first | done | rfl | (simp only [List.length_drop, List.length_take]; rfl)) ?_; (with_reducible refine (spec_l4In.calls k1 _ _ l0 x4_1 true _ ?side1 ?side2 A6.out).mono ?_); (case side1 => repeat (first | exact (Kd.C_below HR0.out HB.out) | exact HR0.out | (with_reducible refine Kd.C_alloc ?_ _) | (with_reducible refine Kd.C_drewN ?_ _) | (with_reducible refine Kd.C_drew ?_))); (case side2 => exact HC0.out); rintro e w' ⟨rfl, ⟨nd, rfl⟩⟩; refine ⟨_, rfl, ?_⟩))
            go_meet
            case rel => exact ⟨_, (true), (by first | rfl | (simp; done) | (simp [*]; done)), H', ⟨by have := HK1.out; first | omega | exact Nat.le_refl _⟩, ⟨by (with_reducible repeat (first | apply Kd.R_alloc | apply Kd.R_drewN | apply Kd.R_drew)); exact HO_3.out⟩, ⟨by repeat (first | (with_reducible first | exact HB.out | apply below_alloc | apply pw_below_drewN | apply below_drew1) | exact HB.out | exact Below.refl _ _)⟩⟩
          · replace c7 := Bool.eq_false_iff.mpr c7
            subst c7
            have H1 : ((spec_l4In.f k1 l0 (wrap64 (x4_1 + 32))).bind fun t237 => (spec_l4FoldSet.j1 k1 l0 x3_1 x4_1 t237)) = some r := by rw [if_neg (show ¬ (false = true) by decide)] at H; exact H
            clear H
            have H := H1
            clear H1
            replace H := Option.bind_eq_some_iff.mp H
            obtain ⟨t237, A80, H⟩ := H
            replace H : (spec_l4FoldSet.j1 k1 l0 x3_1 x4_1 t237) = some r := H
            have A8 := Aside0.mk A80
            clear A80
            have H' := Aside0.mk H
            clear H
            go_wp2_with (first | ((with_reducible refine gate_callee (f := 100) rfl ?_); refine goesL_ (some 13) rfl rfl Try.func100 (by kernel_rfl) rfl #[.slice A0 l0.length c0, .int .i64 x4_1] rfl (by (try simp only [List.map_toArray, List.map_cons, List.map_nil]); first | done | rfl | (simp only [List.length_drop, List.length_take]; rfl)) ?_; (with_reducible refine (spec_l4In.calls k1 _ _ l0 x4_1 false _ ?side1 ?side2 A6.out).mono ?_); (case side1 => repeat (first | exact (Kd.C_below HR0.out HB.out) | exact HR0.out | (with_reducible refine Kd.C_alloc ?_ _) | (with_reducible refine Kd.C_drewN ?_ _) | (with_reducible refine Kd.C_drew ?_))); (case side2 => exact HC0.out); rintro e w' ⟨rfl, ⟨nd, rfl⟩⟩; refine ⟨_, rfl, ?_⟩) | (go_at_call 100; (with_reducible refine (spec_l4In.calls k1 _ _ l0 (wrap64 (x4_1 + 32)) t237 _ ?side1 ?side2 A8.out).mono ?_); (case side1 => repeat (first | exact (Kd.C_below HR0.out (by repeat (first | (with_reducible first | exact HB.out | apply below_alloc | apply pw_below_drewN | apply below_drew1) | exact HB.out | exact Below.refl _ _))) | (with_reducible refine Kd.C_alloc ?_ _) | (with_reducible refine Kd.C_drewN ?_ _) | (with_reducible refine Kd.C_drew ?_))); (case side2 => exact HC0.out); rintro e w' ⟨rfl, ⟨nd, rfl⟩⟩))
            go_meet
            case rel => exact ⟨_, (t237), (by first | rfl | (simp; done) | (simp [*]; done)), H', ⟨by have := HK1.out; first | omega | exact Nat.le_refl _⟩, ⟨by (with_reducible repeat (first | apply Kd.R_alloc | apply Kd.R_drewN | apply Kd.R_drew)); exact HO_3.out⟩, ⟨by repeat (first | (with_reducible first | exact HB.out | apply below_alloc | apply pw_below_drewN | apply below_drew1) | exact HB.out | exact Below.refl _ _)⟩⟩
        case rest =>
          clear HC5
          try clear c1
          try clear p2
          try clear c4
          try clear c4b0
          try clear p6
          try clear c7
          try clear p2
          obtain ⟨kq, x19_4, rfl, HA, HJ4, HO_3, HB⟩ := hcut
          cases kq with
          | zero => exact absurd HA.out (by simp [spec_l4FoldSet.j1])
          | succ kj4 =>
            have H := HA.out
            clear HA
            simp only [spec_l4FoldSet.j1] at H
            by_cases c9 : x19_4 = true
            · subst c9
              have H1 : ((spec_l4Add.f kj4 x3_1 x4_1 x4_1).bind fun t238 => ((spec_l4Add.f kj4 t238 (wrap64 (x4_1 + 32)) (wrap64 (x4_1 + 32))).bind fun t241 => (spec_l4FoldSet.l0 kj4 l0 t241 (wrap64 (x4_1 + 1))))) = some r := by rw [if_pos rfl] at H; exact H
              clear H
              have H := H1
              clear H1
              replace H := Option.bind_eq_some_iff.mp H
              obtain ⟨t238, A100, H⟩ := H
              replace H : ((spec_l4Add.f kj4 t238 (wrap64 (x4_1 + 32)) (wrap64 (x4_1 + 32))).bind fun t241 => (spec_l4FoldSet.l0 kj4 l0 t241 (wrap64 (x4_1 + 1)))) = some r := H
              have A10 := Aside0.mk A100
              clear A100
              replace H := Option.bind_eq_some_iff.mp H
              obtain ⟨t241, A110, H⟩ := H
              replace H : (spec_l4FoldSet.l0 kj4 l0 t241 (wrap64 (x4_1 + 1))) = some r := H
              have A11 := Aside0.mk A110
              clear A110
              have H' := Aside0.mk H
              clear H
              obtain ⟨Ao12, co12, eo12⟩ := Kd.R_slice HO_3.out
              subst eo12
              go_wp2_with (first | ((with_reducible refine gate_callee (f := 101) rfl ?_); refine goesL_ (some 23) rfl rfl Try.func101 (by kernel_rfl) rfl #[.slice Ao12 x3_1.length co12, .int .i64 x4_1, .int .i64 x4_1] rfl (by (try simp only [List.map_toArray, List.map_cons, List.map_nil]); first | done | rfl | (simp only [List.length_drop, List.length_take]; rfl)) ?_; (with_reducible refine (spec_l4Add.calls kj4 _ _ x3_1 x4_1 x4_1 t238 _ ?side1 ?side2 A10.out).mono ?_); (case side1 => repeat (first | exact (Kd.R_reads' HO_3.out).2.2 | (with_reducible refine Kd.C_alloc ?_ _) | (with_reducible refine Kd.C_drewN ?_ _) | (with_reducible refine Kd.C_drew ?_))); (case side2 => exact (Kd.R_reads' HO_3.out).2.1); rintro e w13 ⟨v239, rfl, ho0, hb⟩; refine ⟨_, rfl, ?_⟩; have n0_ := Aside0.mk (Kd.R_elder' (by (with_reducible repeat (first | apply Kd.R_alloc | apply Kd.R_drewN | apply Kd.R_drew)); exact HO_3.out) (Kd.R_base ho0) hb); have n1_ := Aside0.mk (Kd.R_lower (Kd.R_new' ho0 (Kd.R_lt (by (with_reducible repeat (first | apply Kd.R_alloc | apply Kd.R_drewN | apply Kd.R_drew)); exact HO_3.out))) (below_size (by repeat (first | (with_reducible first | exact HB.out | apply below_alloc | apply pw_below_drewN | apply below_drew1) | exact HB.out | exact Below.refl _ _)))); have n2_ := Aside0.mk (below_step (by repeat (first | (with_reducible first | exact HB.out | apply below_alloc | apply pw_below_drewN | apply below_drew1) | exact HB.out | exact Below.refl _ _)) hb); clear HO_3; clear HB; have HO_3 := n0_; have HO240 := n1_; have HB := n2_; clear n0_ n1_ n2_; (try clear hb); (try clear hb2); (try clear hk); (try clear hi); (try clear ho0); obtain ⟨Ao14, co14, eo14⟩ := Kd.R_slice HO240.out; subst eo14) | ((with_reducible refine gate_callee (f := 101) rfl ?_); refine goesL_ (some 29) rfl rfl Try.func101 (by kernel_rfl) rfl #[.slice Ao14 t238.length co14, .int .i64 (wrap64 (x4_1 + 32)), .int .i64 (wrap64 (x4_1 + 32))] rfl (by (try simp only [List.map_toArray, List.map_cons, List.map_nil]); first | done | rfl | (simp only [List.length_drop, List.length_take]; rfl)) ?_; (with_reducible refine (spec_l4Add.calls kj4 _ _ t238 (wrap64 (x4_1 + 32)) (wrap64 (x4_1 + 32)) t241 _ ?side1 ?side2 A11.out).mono ?_); (case side1 => repeat (first | exact (Kd.R_reads' HO240.out).2.2 | (with_reducible refine Kd.C_alloc ?_ _) | (with_reducible refine Kd.C_drewN ?_ _) | (with_reducible refine Kd.C_drew ?_))); (case side2 => exact (Kd.R_reads' HO240.out).2.1); rintro e w15 ⟨v242, rfl, ho0, hb⟩; refine ⟨_, rfl, ?_⟩; have n0_ := Aside0.mk (Kd.R_elder' (by (with_reducible repeat (first | apply Kd.R_alloc | apply Kd.R_drewN | apply Kd.R_drew)); exact HO_3.out) (Kd.R_base ho0) hb); have n1_ := Aside0.mk (Kd.R_elder' (by (with_reducible repeat (first | apply Kd.R_alloc | apply Kd.R_drewN | apply Kd.R_drew)); exact HO240.out) (Kd.R_base ho0) hb); have n2_ := Aside0.mk (Kd.R_lower (Kd.R_new' (Kd.R_new' ho0 (Kd.R_lt (by (with_reducible repeat (first | apply Kd.R_alloc | apply Kd.R_drewN | apply Kd.R_drew)); exact HO_3.out))) (Kd.R_lt (by (with_reducible repeat (first | apply Kd.R_alloc | apply Kd.R_drewN | apply Kd.R_drew)); exact HO240.out))) (below_size (by repeat (first | (with_reducible first | exact HB.out | apply below_alloc | apply pw_below_drewN | apply below_drew1) | exact HB.out | exact Below.refl _ _)))); have n3_ := Aside0.mk (below_step (by repeat (first | (with_reducible first | exact HB.out | apply below_alloc | apply pw_below_drewN | apply below_drew1) | exact HB.out | exact Below.refl _ _)) hb); clear HO_3; clear HO240; clear HB; have HO_3 := n0_; have HO240 := n1_; have HO243 := n2_; have HB := n3_; clear n0_ n1_ n2_ n3_; (try clear hb); (try clear hb2); (try clear hk); (try clear hi); (try clear ho0)))
              go_roundg kj4
              case measure => have := HK1.out; have := HJ4.out; omega
              case rel => exact ⟨(t241), (wrap64 (x4_1 + 1)), (by first | rfl | (simp; done) | (simp [*]; done)), H', ⟨by have := HK1.out; have := HJ4.out; omega⟩, ⟨by (with_reducible repeat (first | apply Kd.R_alloc | apply Kd.R_drewN | apply Kd.R_drew)); exact Kd.R_mono HO243.out (fun _ hk => trivial)⟩, ⟨by repeat (first | (with_reducible first | exact HB.out | apply below_alloc | apply pw_below_drewN | apply below_drew1) | exact HB.out | exact Below.refl _ _)⟩⟩
            · replace c9 := Bool.eq_false_iff.mpr c9
              subst c9
              have H1 : (spec_l4FoldSet.l0 kj4 l0 x3_1 (wrap64 (x4_1 + 1))) = some r := by rw [if_neg (show ¬ (false = true) by decide)] at H; exact H
              clear H
              have H := H1
              clear H1
              have H' := Aside0.mk H
              clear H
              go_wp2
              go_roundg kj4
              case measure => have := HK1.out; have := HJ4.out; omega
              case rel => exact ⟨(x3_1), (wrap64 (x4_1 + 1)), (by first | rfl | (simp; done) | (simp [*]; done)), H', ⟨by have := HK1.out; have := HJ4.out; omega⟩, ⟨by (with_reducible repeat (first | apply Kd.R_alloc | apply Kd.R_drewN | apply Kd.R_drew)); exact HO_3.out⟩, ⟨by repeat (first | (with_reducible first | exact HB.out | apply below_alloc | apply pw_below_drewN | apply below_drew1) | exact HB.out | exact Below.refl _ _)⟩⟩
      · rw [if_neg c4] at H
        have c4b0 : decide (x4_1 ≤ 90) = false := decide_eq_false c4
        clear c4
        obtain rfl := Option.some.inj H
        go_wp2
        go_ret
        exact ⟨_, by first | rfl | (simp [errW_none, errW_some] <;> rfl) | (simp [*, errW_none, errW_some] <;> rfl), by (with_reducible repeat (first | apply Kd.R_alloc | apply Kd.R_drewN | apply Kd.R_drew)); exact HO_3.out, by repeat (first | (with_reducible first | exact HB.out | apply below_alloc | apply pw_below_drewN | apply below_drew1) | exact HB.out | exact Below.refl _ _)⟩

/-! ### spec_FoldRe: function 35 -/
def spec_FoldRe.l0 : Nat → List S49 → Int → Option (List S49)
  | 0, _, _ => none
  | k + 1, x, i => if i < (x.length : Int) then (if 0 ≤ i then (if (rd_T49 x i).f0 = 2 then (spec_l4FoldSet.f k (rd_T49 x i).f1).bind fun t => spec_FoldRe.l0 k (x.set i.toNat ⟨(rd_T49 x i).f0, t⟩) (wrap64 (i + 1)) else spec_FoldRe.l0 k x (wrap64 (i + 1))) else none) else some x
theorem spec_FoldRe.mono_l : ∀ k, (∀ y0 y1, LeO (spec_FoldRe.l0 k y0 y1) (spec_FoldRe.l0 (k + 1) y0 y1))
  | 0 => fun _ _ r h => by simp [spec_FoldRe.l0] at h
  | k + 1 => by
    have ih0 := spec_FoldRe.mono_l k
    · intro y0 y1
      unfold spec_FoldRe.l0
      repeat' first
      | (with_reducible exact ih0 _ _)
      | (with_reducible exact spec_l4FoldSet.mono _ _)
      | (with_reducible exact LeO.refl _)
      | (with_reducible exact LeO.none _)
      | (with_reducible refine LeO.ite ?_ ?_)
      | (with_reducible refine LeO.bind ?_ (fun _ => ?_))
def spec_FoldRe.f (k : Nat) (l0 : List S49) : Option (List S49 × Bool) := (spec_GoodRe.f k l0).bind fun b => if b = true then (spec_l5Own.f k l0).bind fun x => (spec_FoldRe.l0 k x 0).bind fun y => (spec_GoodRe.f k y).bind fun b2 => if b2 = true then some (y, true) else some ([], false) else some ([], false)
theorem spec_FoldRe.mono : ∀ a0 k, LeO (spec_FoldRe.f k a0) (spec_FoldRe.f (k + 1) a0) := by
  intro a0 k
  unfold spec_FoldRe.f
  repeat' first
      | (with_reducible exact spec_GoodRe.mono _ _)
      | (with_reducible exact spec_l5Own.mono _ _)
      | (with_reducible exact spec_FoldRe.mono_l _ _ _)
      | (with_reducible exact LeO.refl _)
      | (with_reducible refine LeO.ite ?_ ?_)
      | (with_reducible refine LeO.bind ?_ (fun _ => ?_))
set_option maxHeartbeats 8000000 in
set_option maxRecDepth 100000 in
theorem spec_FoldRe.calls (k : Nat) (A0 : Option Addr) (c0 : Nat) (l0 : List S49) (r1 : List S49) (r2 : Bool) (w : World) (hr0 : Kd.C k49 w A0 l0.length l0) (hc0 : l0.length ≤ c0) (h : spec_FoldRe.f k l0 = some (r1, r2)) :
    Calls Try.prog 35 #[.slice A0 l0.length c0] w fun e w' => ∃ v0_ : Value, e = .returned (.tuple #[v0_, .bool r2]) ∧ Kd.S k49 49 w' w.heap.size (fun _ => True) v0_ r1 ∧ Below w.heap.size w w' := by
  have hu49 := Try.underlying49
  unfold spec_FoldRe.f at h
  obtain ⟨b, hb0, h⟩ := Option.bind_eq_some_iff.mp h
  have HG := Aside0.mk (spec_GoodRe.calls k A0 c0 l0 b w hr0 hc0 hb0)
  have HA := Aside0.mk (fun (W : World) (hb : Below w.heap.size w W) => Kd.C_below hr0 hb)
  have HC0 := Aside0.mk hc0
  clear hr0 hc0 hb0
  cases b with
  | false =>
    rw [if_neg (by simp)] at h
    simp only [Option.some.injEq, Prod.mk.injEq] at h
    obtain ⟨rfl, rfl⟩ := h
    clear HA HC0
    go_enter Try.func35, Try.ntmps35
    go_wp2_with fail
    refine HG.out.mono ?_
    rintro e w1 ⟨rfl, hb⟩
    have HB := Aside0.mk hb
    clear hb HG
    go_wp2
    go_ret2
    exact ⟨_, rfl, Kd.S_nil _ _ _ _ _, HB.out⟩
  | true =>
    rw [if_pos rfl] at h
    obtain ⟨x, hx, h⟩ := Option.bind_eq_some_iff.mp h
    obtain ⟨y, hy, h⟩ := Option.bind_eq_some_iff.mp h
    have HX := Aside0.mk hx
    have HY := Aside0.mk hy
    have HR := Aside0.mk h
    clear hx hy h
    go_enter Try.func35, Try.ntmps35
    go_wp2_with fail
    refine HG.out.mono ?_
    rintro e w1 ⟨rfl, hb⟩
    have HB1 := Aside0.mk hb
    clear hb HG
    go_wp2_with fail
    refine (spec_l5Own.calls k A0 c0 l0 x w1 (HA.out w1 HB1.out) HC0.out HX.out).mono ?_
    rintro e w2 ⟨vo, rfl, ho, hb⟩
    obtain ⟨Ao, co, eo⟩ := Kd.S_slice ho
    subst eo
    have HO := Aside0.mk (Kd.S_lower ho HB1.out.size)
    have HB2 := Aside0.mk (HB1.out.trans (hb.mono HB1.out.size))
    clear ho hb HB1 HA HC0 HX
    go_wp2
    go_loopg [14] k (fun kq v14 w' => ∃ (x_1 : List S49) (i_1 : Int), v14 = .int .i64 i_1 ∧ Aside0 (spec_FoldRe.l0 kq x_1 i_1 = some y) ∧ Aside0 (kq ≤ k) ∧ Aside0 (x_1.length = x.length) ∧ Aside0 (Kd.S k49 49 w' w.heap.size (fun _ => True) (.slice Ao x.length co) x_1) ∧ Aside0 (Below w.heap.size w w'))
    case atStart => exact ⟨x, 0, rfl, HY, ⟨Nat.le_refl _⟩, ⟨rfl⟩, HO, HB2⟩
    case round =>
      clear HO HB2 HY
      obtain ⟨x_1, i_1, rfl, HH, HK1, HN, HO, HB⟩ := hrel
      cases gk with
      | zero => exact absurd HH.out (by simp [spec_FoldRe.l0])
      | succ k1 =>
        have H := HH.out
        clear HH
        simp only [spec_FoldRe.l0] at H
        by_cases c3 : i_1 < (x_1.length : Int)
        · rw [if_pos c3] at H
          have c3b0 : decide (i_1 < (x.length : Int)) = true := decide_eq_true (by have := HN.out; omega)
          by_cases c4 : 0 ≤ i_1
          · rw [if_pos c4] at H
            have c4b0 : decide (0 ≤ i_1) = true := decide_eq_true c4
            have h1 : i_1 < (x.length : Int) := by have := HN.out; omega
            have hlen : 0 < x_1.length := by omega
            obtain ⟨g5, co5, eo5, gb5, gl5, cl5, HG5⟩ := Kd.S_form HO.out (by omega)
            injection eo5 with ea_ en_ ec_
            subst ea_ ec_
            clear en_
            obtain ⟨oki, cc, hcl, hM, hcc, hfr, hoki, hH⟩ := Kd.S_elem HO.out (⟨0, []⟩ : S49) i_1 c4 h1
            obtain ⟨vS, hce, hRS⟩ := k49_openM hM
            subst hce
            have hx0 : wr.cell? ⟨g5, i_1.toNat * 2, none⟩ = _ := hcc 0 _ rfl
            have hx1 : wr.cell? ⟨g5, i_1.toNat * 2 + 1, none⟩ = _ := hcc 1 _ rfl
            have erd : rd_T49 x_1 i_1 = x_1.getD i_1.toNat ⟨0, []⟩ := rfl
            rw [erd] at H
            obtain ⟨As, cs, evs, hls, hCs⟩ := Kd.R_reads hRS
            subst evs
            have HCs := Aside0.mk (fun (W : World) (hb : Below wr.heap.size wr W) => Kd.C_below hCs hb)
            have HLs := Aside0.mk hls
            have GL5 := Aside0.mk gl5
            have GB5 := Aside0.mk gb5
            generalize hel : x_1.getD i_1.toNat ⟨0, []⟩ = el at *
            have HEL := Aside0.mk hel
            clear c3 hM hcc hfr hcl hH hRS hoki HG5 hCs hls erd gl5 gb5 hel
            by_cases c5 : el.f0 = 2
            · have c5b0 : (el.f0 == 2) = true := beq_iff_eq.2 c5
              rw [if_pos c5] at H
              obtain ⟨t, ht, H⟩ := Option.bind_eq_some_iff.mp H
              have HT := Aside0.mk ht
              have H' := Aside0.mk H
              clear H ht c5
              go_wp2_with fail
              have HBa := Aside0.mk (below_alloc (Below.refl wr.heap.size wr) (Obj.cells #[.int .i64 el.f0, .slice As el.f1.length cs] 49))
              have HOa := Aside0.mk (Kd.S_below HO.out HBa.out)
              clear hx0 hx1 HO
              generalize wr.alloc (Obj.cells #[.int .i64 el.f0, .slice As el.f1.length cs] 49) = W0 at HBa HOa ⊢
              refine (spec_l4FoldSet.calls k1 As cs el.f1 t W0 (HCs.out W0 HBa.out) HLs.out HT.out).mono ?_
              rintro e w9 ⟨v9, rfl, ho, hb⟩
              have hsz := HBa.out.size
              have hsw := HB.out.size
              have hg5 : g5 < W0.heap.size := Nat.lt_of_lt_of_le GL5.out hsz
              obtain ⟨oki, cc, hcl, hM, hcc, hfr, hoki, hH⟩ := Kd.S_elem (Kd.S_old HOa.out hb) (⟨0, []⟩ : S49) i_1 c4 h1
              rw [HEL.out] at hM
              obtain ⟨vS, hce, hRS⟩ := k49_openM hM
              subst hce
              have hx1 : w9.cell? ⟨g5, i_1.toNat * 2 + 1, none⟩ = _ := hcc 1 _ rfl
              have hf1 : w9.frozen? ⟨g5, i_1.toNat * 2 + 1, none⟩ = false := hfr 1
              obtain ⟨A9, c9, e9⟩ := Kd.R_slice ho
              subst e9
              obtain ⟨hS8, hg8⟩ := Kd.S_seg (okg := fun k_ => W0.heap.size ≤ k_) (seg := [.slice A9 t.length c9]) (j := 1) (x' := ⟨el.f0, t⟩) (okp := fun k_ => W0.heap.size ≤ k_) (Kd.H_mono hH (fun k hk => ⟨trivial, by have := hk.2; omega⟩)) c4 h1 (by show 1 + 1 ≤ 2; omega) (k49_mkM w9 w.heap.size _ ⟨el.f0, t⟩ (Kd.R_lower (Kd.R_mono (Kd.R_bound ho) (fun k hk => hk.2.1)) (Nat.le_trans hsw hsz))) (fun k hk => .inr hk) (fun k hk => ⟨trivial, by omega⟩)
              have HS8 := Aside0.mk (show Kd.S k49 49 (w9.setCell ⟨g5, i_1.toNat * 2 + 1, none⟩ (.slice A9 t.length c9)) w.heap.size (fun _ => True) (.slice (some ⟨g5, 0, none⟩) x.length co) (x_1.set i_1.toNat ⟨el.f0, t⟩) from hS8)
              have hB9 : Below w.heap.size w w9 := HB.out.trans ((HBa.out.trans (hb.mono hsz)).mono hsw)
              have HB8 := Aside0.mk (show Below w.heap.size w (w9.setCell ⟨g5, i_1.toNat * 2 + 1, none⟩ (.slice A9 t.length c9)) from below_set hB9 GB5.out)
              clear ho hb hsz hsw hg5 hcl hM hcc hfr hoki hH hRS hS8 hg8 hB9 HOa HBa HB HCs
              go_wp2
              go_roundg k1
              case measure => have := HK1.out; omega
              case rel => exact ⟨_, _, rfl, H', ⟨by have := HK1.out; omega⟩, ⟨by rw [List.length_set]; exact HN.out⟩, HS8, HB8⟩
            · have c5b0 : (el.f0 == 2) = false := beq_eq_false_iff_ne.2 c5
              rw [if_neg c5] at H
              have H' := Aside0.mk H
              clear H c5
              have HBa := Aside0.mk (below_alloc (Below.refl wr.heap.size wr) (Obj.cells #[.int .i64 el.f0, .slice As el.f1.length cs] 49))
              have HOa := Aside0.mk (Kd.S_below HO.out HBa.out)
              have HBb := Aside0.mk (HB.out.trans (HBa.out.mono HB.out.size))
              clear HO HB HBa
              go_wp2
              go_roundg k1
              case measure => have := HK1.out; omega
              case rel => exact ⟨_, _, rfl, H', ⟨by have := HK1.out; omega⟩, ⟨HN.out⟩, HOa, HBb⟩
          · rw [if_neg c4] at H
            exact absurd H (by simp)
        · rw [if_neg c3] at H
          have c3b0 : decide (i_1 < (x.length : Int)) = false := decide_eq_false (by have := HN.out; omega)
          clear c3
          obtain rfl := Option.some.inj H
          clear H
          go_wp2_with fail
          have hrd := Kd.S_reads' HO.out
          rw [hrd.1]
          obtain ⟨b2, hb2, hr⟩ := Option.bind_eq_some_iff.mp HR.out
          refine (spec_GoodRe.calls k Ao co x_1 b2 wr hrd.2.2 (by have := hrd.2.1; have := hrd.1; omega) hb2).mono ?_
          rintro e w9 ⟨rfl, hb⟩
          have hsw := HB.out.size
          have HO9 := Aside0.mk (Kd.S_below HO.out hb)
          have HB9 := Aside0.mk (HB.out.trans (hb.mono hsw))
          have HE := Aside0.mk hrd.1
          clear hb hsw hrd HO HB hb2 HR
          cases b2 with
          | false =>
            rw [if_neg (by simp)] at hr
            simp only [Option.some.injEq, Prod.mk.injEq] at hr
            obtain ⟨rfl, rfl⟩ := hr
            go_wp2
            go_ret2
            exact ⟨_, rfl, Kd.S_nil _ _ _ _ _, HB9.out⟩
          | true =>
            rw [if_pos rfl] at hr
            simp only [Option.some.injEq, Prod.mk.injEq] at hr
            obtain ⟨rfl, rfl⟩ := hr
            go_wp2
            go_ret2
            exact ⟨_, rfl, by rw [← HE.out]; exact HO9.out, HB9.out⟩

/-! ### impl_inRange: function 44 -/
def impl_inRange.f (a0 : Int) (a1 : Int) (a2 : Int) : Option (Bool) := if a1 ≤ a0 then (some (decide (a0 ≤ a2))) else (some false)
set_option maxHeartbeats 8000000 in
set_option maxRecDepth 100000 in
theorem impl_inRange.calls (a0 : Int) (a1 : Int) (a2 : Int) (r : Bool) (w : World) (h : impl_inRange.f a0 a1 a2 = some r) :
    Calls Try.prog 44 #[.int .i64 a0, .int .i64 a1, .int .i64 a2] w fun e w' => e = .returned (.bool r) ∧ Drawn0 w w' := by
  have H : (if a1 ≤ a0 then (some (decide (a0 ≤ a2))) else (some false)) = some r := h
  clear h
  by_cases c4 : a1 ≤ a0
  · rw [if_pos c4] at H
    have c4b0 : decide (a1 ≤ a0) = true := decide_eq_true c4
    clear c4
    obtain rfl := Option.some.inj H
    go_enter Try.func44, Try.ntmps44
    go_wp2
    go_ret
    exact ⟨by first | rfl | (simp; done) | (simp [*]; done), by repeat (first | exact Drawn0.refl _ | apply Drawn0.step)⟩
  · rw [if_neg c4] at H
    have c4b0 : decide (a1 ≤ a0) = false := decide_eq_false c4
    clear c4
    obtain rfl := Option.some.inj H
    go_enter Try.func44, Try.ntmps44
    go_wp2
    go_ret
    exact ⟨by first | rfl | (simp; done) | (simp [*]; done), by repeat (first | exact Drawn0.refl _ | apply Drawn0.step)⟩

end Go.Proofs.Ytlmpeaelpchokaa.HFnExactFoldRe
