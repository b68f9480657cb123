/- Written by wip/pr.py of this session, for the law FnExactDerivRe: Lean functions with the answers of the program's, and the proofs of that; where the kit's print has no word, by hand. -/
import Derived.Test.YtlmpeaelpchokaaHFnExactDerivRex0
import Derived.Test.YtlmpeaelpchokaaHFnExactDerivRex8
import Derived.Test.YtlmpeaelpchokaaHFnExactDerivRex9
import Derived.Test.YtlmpeaelpchokaaHFnExactDerivRex10
namespace Go.Proofs.Ytlmpeaelpchokaa.HFnExactDerivRe
set_option maxHeartbeats 8000000
set_option maxRecDepth 100000
open Go.RowKit Go.Proofs.YtlmpeaelpchokaaW.PrintWords Go.Proofs.YtlmpeaelpchokaaW.PrintLast Go.Proofs.YtlmpeaelpchokaaW.PrintMore

set_option linter.unusedVariables false
set_option linter.unusedSimpArgs false

mutual
def impl_tidied.j4 : Nat → Int → List (S49) → List (S49) → Option ((List (S49)))
 | 0, _, _, _ => none
 | k + 1, x0, x1, x2 => (impl_partsOf.f k x0).bind fun t467 => (if t467 = 1 then ((impl_node.f x0 (([x1] : List (List (S49))))).bind fun t471 => (some t471)) else ((impl_node.f x0 (([x1, x2] : List (List (S49))))).bind fun t477 => (some t477)))
def impl_tidied.j0 : Nat → Int → List (S49) → List (S49) → Bool → Option ((List (S49)))
 | 0, _, _, _, _ => none
 | k + 1, x0, x1, x2, x11 => if x11 = true then ((impl_nothing.f).bind fun t441 => (some t441)) else ((impl_isNone.f k x1).bind fun t444 => (if t444 = true then (some x2) else ((impl_isNone.f k x2).bind fun t445 => (if t445 = true then (some x1) else (impl_tidied.j4 k x0 x1 x2)))))
def impl_tidied.j1 : Nat → Int → List (S49) → List (S49) → Bool → Option ((List (S49)))
 | 0, _, _, _, _ => none
 | k + 1, x0, x1, x2, x29 => if x29 = true then (some x2) else ((impl_isNothing.f k x2).bind fun t448 => (if t448 = true then (some x1) else (impl_tidied.j4 k x0 x1 x2)))
def impl_tidied.j2 : Nat → Int → List (S49) → List (S49) → Bool → Option ((List (S49)))
 | 0, _, _, _, _ => none
 | k + 1, x0, x1, x2, x44 => if x44 = true then ((impl_nothing.f).bind fun t451 => (some t451)) else ((impl_samePat.f k x1 x2).bind fun t454 => (if t454 = true then (some x1) else (impl_tidied.j4 k x0 x1 x2)))
def impl_tidied.j3 : Nat → Int → List (S49) → List (S49) → Bool → Option ((List (S49)))
 | 0, _, _, _, _ => none
 | k + 1, x0, x1, x2, x59 => if x59 = true then ((impl_none.f).bind fun t457 => (some t457)) else (if 0 ≤ (wrap64 ((x1.length : Int) - 1)) then (if (wrap64 ((x1.length : Int) - 1)) < (x1.length : Int) then (if ((rd_T49 x1 (wrap64 ((x1.length : Int) - 1))).f0) = 6 then (some x1) else (impl_tidied.j4 k x0 x1 x2)) else (none)) else (none))
end
def impl_tidied.f (k : Nat) (a0 : Int) (l1 : List (S49)) (l2 : List (S49)) : Option ((List (S49))) := if a0 = 3 then ((impl_isNothing.f k l1).bind fun t439 => (if t439 = true then (impl_tidied.j0 k a0 l1 l2 true) else ((impl_isNothing.f k l2).bind fun t440 => (impl_tidied.j0 k a0 l1 l2 t440)))) else (if a0 = 4 then ((impl_isNothing.f k l1).bind fun t446 => (if t446 = true then (impl_tidied.j1 k a0 l1 l2 true) else ((impl_samePat.f k l1 l2).bind fun t447 => (impl_tidied.j1 k a0 l1 l2 t447)))) else (if a0 = 5 then ((impl_isNothing.f k l1).bind fun t449 => (if t449 = true then (impl_tidied.j2 k a0 l1 l2 true) else ((impl_isNothing.f k l2).bind fun t450 => (impl_tidied.j2 k a0 l1 l2 t450)))) else (if a0 = 6 then ((impl_isNone.f k l1).bind fun t455 => (if t455 = true then (impl_tidied.j3 k a0 l1 l2 true) else ((impl_isNothing.f k l1).bind fun t456 => (impl_tidied.j3 k a0 l1 l2 t456)))) else (if a0 = 7 then (if 0 ≤ (wrap64 ((l1.length : Int) - 1)) then (if (wrap64 ((l1.length : Int) - 1)) < (l1.length : Int) then (if ((rd_T49 l1 (wrap64 ((l1.length : Int) - 1))).f0) = 7 then (if (wrap64 ((l1.length : Int) - 1)) ≤ (l1.length : Int) then (some (l1.take ((wrap64 ((l1.length : Int) - 1)) : Int).toNat)) else (none)) else (impl_tidied.j4 k a0 l1 l2)) else (none)) else (none)) else (impl_tidied.j4 k a0 l1 l2)))))
theorem impl_tidied.calls (k : Nat) (a0 : Int) (P1_ : Nat → Prop) (A1 : Option Addr) (c1 : Nat) (l1 : List (S49)) (P2_ : Nat → Prop) (A2 : Option Addr) (c2 : Nat) (l2 : List (S49)) (r : List (S49)) (w : World) (hs1 : Kd.V k49 49 w w.heap.size (fun k_ => P1_ k_) (.slice A1 l1.length c1) l1) (hs2 : Kd.V k49 49 w w.heap.size (fun k_ => P2_ k_) (.slice A2 l2.length c2) l2) (h : impl_tidied.f k a0 l1 l2 = some r) :
  Calls Try.prog 99 #[.int .i64 a0, .slice A1 l1.length c1, .slice A2 l2.length c2] w fun e w' => ∃ v0_ : Value, e = .returned (v0_) ∧ Kd.V k49 49 w' w.heap.size (fun k_ => ((P1_ k_ ∨ P2_ k_) ∨ w.heap.size ≤ k_)) v0_ r ∧ Below w.heap.size w w' := by
 have HO1 := Aside0.mk (show Kd.V k49 49 w w.heap.size (fun k_ => ((P1_ k_ ∨ P2_ k_) ∨ w.heap.size ≤ k_)) (.slice A1 l1.length c1) l1 from Kd.V_mono hs1 (fun k_ hk => .inl (.inl hk)))
 have HO2 := Aside0.mk (show Kd.V k49 49 w w.heap.size (fun k_ => ((P1_ k_ ∨ P2_ k_) ∨ w.heap.size ≤ k_)) (.slice A2 l2.length c2) l2 from Kd.V_mono hs2 (fun k_ hk => .inl (.inr hk)))
 have HB := Aside0.mk (Below.refl w.heap.size w)
 have H : (if a0 = 3 then ((impl_isNothing.f k l1).bind fun t439 => (if t439 = true then (impl_tidied.j0 k a0 l1 l2 true) else ((impl_isNothing.f k l2).bind fun t440 => (impl_tidied.j0 k a0 l1 l2 t440)))) else (if a0 = 4 then ((impl_isNothing.f k l1).bind fun t446 => (if t446 = true then (impl_tidied.j1 k a0 l1 l2 true) else ((impl_samePat.f k l1 l2).bind fun t447 => (impl_tidied.j1 k a0 l1 l2 t447)))) else (if a0 = 5 then ((impl_isNothing.f k l1).bind fun t449 => (if t449 = true then (impl_tidied.j2 k a0 l1 l2 true) else ((impl_isNothing.f k l2).bind fun t450 => (impl_tidied.j2 k a0 l1 l2 t450)))) else (if a0 = 6 then ((impl_isNone.f k l1).bind fun t455 => (if t455 = true then (impl_tidied.j3 k a0 l1 l2 true) else ((impl_isNothing.f k l1).bind fun t456 => (impl_tidied.j3 k a0 l1 l2 t456)))) else (if a0 = 7 then (if 0 ≤ (wrap64 ((l1.length : Int) - 1)) then (if (wrap64 ((l1.length : Int) - 1)) < (l1.length : Int) then (if ((rd_T49 l1 (wrap64 ((l1.length : Int) - 1))).f0) = 7 then (if (wrap64 ((l1.length : Int) - 1)) ≤ (l1.length : Int) then (some (l1.take ((wrap64 ((l1.length : Int) - 1)) : Int).toNat)) else (none)) else (impl_tidied.j4 k a0 l1 l2)) else (none)) else (none)) else (impl_tidied.j4 k a0 l1 l2)))))) = some r := h
 clear h
 have HC4 := Aside0.mk H
 clear H
 go_enter Try.func99, Try.ntmps99
 go_upto_block 0 with (fail)
 go_cut [] (fun wc => ∃ (kq : Nat), Aside0 (impl_tidied.j4 kq a0 l1 l2 = some r) ∧ Aside0 (kq ≤ k) ∧ Aside0 (Kd.V k49 49 wc w.heap.size (fun k_ => ((P1_ k_ ∨ P2_ k_) ∨ w.heap.size ≤ k_)) (.slice A1 l1.length c1) l1) ∧ Aside0 (Kd.V k49 49 wc w.heap.size (fun k_ => ((P1_ k_ ∨ P2_ k_) ∨ w.heap.size ≤ k_)) (.slice A2 l2.length c2) l2) ∧ Aside0 (Below w.heap.size w wc))
 case first =>
  have H := HC4.out
  clear HC4
  by_cases c5 : a0 = 3
  ·rw [if_pos c5] at H
   have c5b0 := q1_ c5
   have c5b1 := q2_ c5
   clear c5
   (first | rw [c5b0] | (simp only [i64_w, i32_w]; rw [c5b0]) | skip)
   have HC6 := Aside0.mk H
   clear H
   go_upto_region 3 with (fail)
   go_cut [11] (fun v11 wc => ∃ (kq : Nat) (x11_5 : Bool), v11 = .bool x11_5 ∧ Aside0 (impl_tidied.j0 kq a0 l1 l2 x11_5 = some r) ∧ Aside0 (kq ≤ k) ∧ Aside0 (Kd.V k49 49 wc w.heap.size (fun k_ => ((P1_ k_ ∨ P2_ k_) ∨ w.heap.size ≤ k_)) (.slice A1 l1.length c1) l1) ∧ Aside0 (Kd.V k49 49 wc w.heap.size (fun k_ => ((P1_ k_ ∨ P2_ k_) ∨ w.heap.size ≤ k_)) (.slice A2 l2.length c2) l2) ∧ Aside0 (Below w.heap.size w wc))
   case first =>
    have H := HC6.out
    clear HC6
    replace H := Option.bind_eq_some_iff.mp H
    obtain ⟨t439, A70, H⟩ := H
    try dsimp only at H
    have A7 := Aside0.mk A70
    clear A70
    by_cases c8 : t439 = true
    ·subst c8
     have H1 := H
     rw [if_pos rfl] at H1
     clear H
     have H := H1
     clear H1
     have H' := Aside0.mk H
     clear H
     go_wp2_with (first | ((with_reducible refine gate_callee (f := 116) rfl ?_); refine goesL_ (some 13) rfl rfl Try.func116 (by kernel_rfl) rfl #[.slice A1 l1.length c1] rfl mz_ ?_; (with_reducible refine (impl_isNothing.calls k _ _ l1 true _ ?side1 ?side2 A7.out).mono ?_); (case side1 => repeat (first | exact (Kd.V_reads' HO1.out).2.2 | (with_reducible refine Kd.C_alloc ?_ _) | (with_reducible refine Kd.C_drewN ?_ _) | (with_reducible refine Kd.C_drew ?_))); (case side2 => exact (Kd.V_reads' HO1.out).2.1); rintro e w9 ⟨rfl, hb⟩; refine ⟨_, rfl, ?_⟩; have n0_ := Aside0.mk (Kd.V_below (vz_ HO1.out) hb); have n1_ := Aside0.mk (Kd.V_below (vz_ HO2.out) hb); have n2_ := Aside0.mk (below_step bz_ hb); clear HO1; clear HO2; clear HB; have HO1 := n0_; have HO2 := n1_; have HB := n2_; clear n0_ n1_ n2_; ))
     go_meet
     case rel => exact ⟨_, (true), rs_, H', ⟨by first | omega | exact Nat.le_refl _⟩, ⟨by (with_reducible repeat (first | apply Kd.V_alloc | apply Kd.V_drewN | apply Kd.V_drew)); exact HO1.out⟩, ⟨by (with_reducible repeat (first | apply Kd.V_alloc | apply Kd.V_drewN | apply Kd.V_drew)); exact HO2.out⟩, ⟨bz_⟩⟩
    ·replace c8 := Bool.eq_false_iff.mpr c8
     subst c8
     have H1 := H
     rw [if_neg (show ¬ (false = true) by decide)] at H1
     clear H
     have H := H1
     clear H1
     replace H := Option.bind_eq_some_iff.mp H
     obtain ⟨t440, A100, H⟩ := H
     try dsimp only at H
     have A10 := Aside0.mk A100
     clear A100
     have H' := Aside0.mk H
     clear H
     go_wp2_with (first | ((with_reducible refine gate_callee (f := 116) rfl ?_); refine goesL_ (some 13) rfl rfl Try.func116 (by kernel_rfl) rfl #[.slice A1 l1.length c1] rfl mz_ ?_; (with_reducible refine (impl_isNothing.calls k _ _ l1 false _ ?side1 ?side2 A7.out).mono ?_); (case side1 => repeat (first | exact (Kd.V_reads' HO1.out).2.2 | (with_reducible refine Kd.C_alloc ?_ _) | (with_reducible refine Kd.C_drewN ?_ _) | (with_reducible refine Kd.C_drew ?_))); (case side2 => exact (Kd.V_reads' HO1.out).2.1); rintro e w11 ⟨rfl, hb⟩; refine ⟨_, rfl, ?_⟩; have n0_ := Aside0.mk (Kd.V_below (vz_ HO1.out) hb); have n1_ := Aside0.mk (Kd.V_below (vz_ HO2.out) hb); have n2_ := Aside0.mk (below_step bz_ hb); clear HO1; clear HO2; clear HB; have HO1 := n0_; have HO2 := n1_; have HB := n2_; clear n0_ n1_ n2_; ) | (go_at_call 116; (with_reducible refine (impl_isNothing.calls k _ _ l2 t440 _ ?side1 ?side2 A10.out).mono ?_); (case side1 => repeat (first | exact (Kd.V_reads' HO2.out).2.2 | (with_reducible refine Kd.C_alloc ?_ _) | (with_reducible refine Kd.C_drewN ?_ _) | (with_reducible refine Kd.C_drew ?_))); (case side2 => exact (Kd.V_reads' HO2.out).2.1); rintro e w12 ⟨rfl, hb⟩; have n0_ := Aside0.mk (Kd.V_below (vz_ HO1.out) hb); have n1_ := Aside0.mk (Kd.V_below (vz_ HO2.out) hb); have n2_ := Aside0.mk (below_step bz_ hb); clear HO1; clear HO2; clear HB; have HO1 := n0_; have HO2 := n1_; have HB := n2_; clear n0_ n1_ n2_; ))
     go_meet
     case rel => exact ⟨_, (t440), rs_, H', ⟨by first | omega | exact Nat.le_refl _⟩, ⟨by (with_reducible repeat (first | apply Kd.V_alloc | apply Kd.V_drewN | apply Kd.V_drew)); exact HO1.out⟩, ⟨by (with_reducible repeat (first | apply Kd.V_alloc | apply Kd.V_drewN | apply Kd.V_drew)); exact HO2.out⟩, ⟨bz_⟩⟩
   case rest =>
    clear HC6
    try clear c1
    try clear c2
    try clear p2
    try clear c5
    try clear c5b0
    try clear c5b1
    try clear p6
    try clear c8
    try clear c9
    try clear c11
    obtain ⟨kq, x11_5, rfl, HA, HJ5, HO_1, HO_2, HB⟩ := hcut
    cases kq with
    | zero => exact absurd HA.out (by simp [impl_tidied.j0])
    | succ kj5 =>
     have H := HA.out
     clear HA
     simp only [impl_tidied.j0] at H
     by_cases c13 : x11_5 = true
     ·subst c13
      have H1 := H
      rw [if_pos rfl] at H1
      clear H
      have H := H1
      clear H1
      replace H := Option.bind_eq_some_iff.mp H
      obtain ⟨t441, A140, H⟩ := H
      try dsimp only at H
      have A14 := Aside0.mk A140
      clear A140
      obtain rfl := Option.some.inj H
      go_wp2_with (first | ((with_reducible refine gate_callee (f := 108) rfl ?_); refine goesL_ (some 18) rfl rfl Try.func108 (by kernel_rfl) rfl #[] rfl mz_ ?_; (with_reducible refine (impl_nothing.calls  t441 _ A14.out).mono ?_); rintro e w15 ⟨v442, rfl, ho0, hb⟩; refine ⟨_, rfl, ?_⟩; have n0_ := Aside0.mk (Kd.V_elder' (vz_ HO_1.out) (kb_ ho0) hb); have n1_ := Aside0.mk (Kd.V_elder' (vz_ HO_2.out) (kb_ ho0) hb); have n2_ := Aside0.mk (Kd.N_lower (Kd.N_mono (ok' := fun k_ => ((P1_ k_ ∨ P2_ k_) ∨ w.heap.size ≤ k_)) (Kd.S_N (Kd.S_bound ho0)) (fun k_ hk_ => (.inr (Nat.le_trans (below_size bz_) hk_.2.1)))) (below_size bz_)); have n3_ := Aside0.mk (below_step bz_ hb); clear HO_1; clear HO_2; clear HB; have HO_1 := n0_; have HO_2 := n1_; have HO443 := n2_; have HB := n3_; clear n0_ n1_ n2_ n3_; (try clear ho0)))
      go_ret
      exact ⟨_, rr_, Kd.N_V (nz_ HO443.out), bz_⟩
     ·replace c13 := Bool.eq_false_iff.mpr c13
      subst c13
      have H1 := H
      rw [if_neg (show ¬ (false = true) by decide)] at H1
      clear H
      have H := H1
      clear H1
      replace H := Option.bind_eq_some_iff.mp H
      obtain ⟨t444, A160, H⟩ := H
      try dsimp only at H
      have A16 := Aside0.mk A160
      clear A160
      by_cases c17 : t444 = true
      ·subst c17
       have H1 := H
       rw [if_pos rfl] at H1
       clear H
       have H := H1
       clear H1
       obtain rfl := Option.some.inj H
       go_wp2_with (first | ((with_reducible refine gate_callee (f := 117) rfl ?_); refine goesL_ (some 21) rfl rfl Try.func117 (by kernel_rfl) rfl #[.slice A1 l1.length c1] rfl mz_ ?_; (with_reducible refine (impl_isNone.calls kj5 _ _ l1 true _ ?side1 ?side2 A16.out).mono ?_); (case side1 => repeat (first | exact (Kd.V_reads' HO_1.out).2.2 | (with_reducible refine Kd.C_alloc ?_ _) | (with_reducible refine Kd.C_drewN ?_ _) | (with_reducible refine Kd.C_drew ?_))); (case side2 => exact (Kd.V_reads' HO_1.out).2.1); rintro e w18 ⟨rfl, hb⟩; refine ⟨_, rfl, ?_⟩; have n0_ := Aside0.mk (Kd.V_below (vz_ HO_1.out) hb); have n1_ := Aside0.mk (Kd.V_below (vz_ HO_2.out) hb); have n2_ := Aside0.mk (below_step bz_ hb); clear HO_1; clear HO_2; clear HB; have HO_1 := n0_; have HO_2 := n1_; have HB := n2_; clear n0_ n1_ n2_; ))
       go_ret
       exact ⟨_, rr_, vz_ HO_2.out, bz_⟩
      ·replace c17 := Bool.eq_false_iff.mpr c17
       subst c17
       have H1 := H
       rw [if_neg (show ¬ (false = true) by decide)] at H1
       clear H
       have H := H1
       clear H1
       replace H := Option.bind_eq_some_iff.mp H
       obtain ⟨t445, A190, H⟩ := H
       try dsimp only at H
       have A19 := Aside0.mk A190
       clear A190
       by_cases c20 : t445 = true
       ·subst c20
        have H1 := H
        rw [if_pos rfl] at H1
        clear H
        have H := H1
        clear H1
        obtain rfl := Option.some.inj H
        go_wp2_with (first | ((with_reducible refine gate_callee (f := 117) rfl ?_); refine goesL_ (some 21) rfl rfl Try.func117 (by kernel_rfl) rfl #[.slice A1 l1.length c1] rfl mz_ ?_; (with_reducible refine (impl_isNone.calls kj5 _ _ l1 false _ ?side1 ?side2 A16.out).mono ?_); (case side1 => repeat (first | exact (Kd.V_reads' HO_1.out).2.2 | (with_reducible refine Kd.C_alloc ?_ _) | (with_reducible refine Kd.C_drewN ?_ _) | (with_reducible refine Kd.C_drew ?_))); (case side2 => exact (Kd.V_reads' HO_1.out).2.1); rintro e w21 ⟨rfl, hb⟩; refine ⟨_, rfl, ?_⟩; have n0_ := Aside0.mk (Kd.V_below (vz_ HO_1.out) hb); have n1_ := Aside0.mk (Kd.V_below (vz_ HO_2.out) hb); have n2_ := Aside0.mk (below_step bz_ hb); clear HO_1; clear HO_2; clear HB; have HO_1 := n0_; have HO_2 := n1_; have HB := n2_; clear n0_ n1_ n2_; ) | ((with_reducible refine gate_callee (f := 117) rfl ?_); refine goesL_ (some 25) rfl rfl Try.func117 (by kernel_rfl) rfl #[.slice A2 l2.length c2] rfl mz_ ?_; (with_reducible refine (impl_isNone.calls kj5 _ _ l2 true _ ?side1 ?side2 A19.out).mono ?_); (case side1 => repeat (first | exact (Kd.V_reads' HO_2.out).2.2 | (with_reducible refine Kd.C_alloc ?_ _) | (with_reducible refine Kd.C_drewN ?_ _) | (with_reducible refine Kd.C_drew ?_))); (case side2 => exact (Kd.V_reads' HO_2.out).2.1); rintro e w22 ⟨rfl, hb⟩; refine ⟨_, rfl, ?_⟩; have n0_ := Aside0.mk (Kd.V_below (vz_ HO_1.out) hb); have n1_ := Aside0.mk (Kd.V_below (vz_ HO_2.out) hb); have n2_ := Aside0.mk (below_step bz_ hb); clear HO_1; clear HO_2; clear HB; have HO_1 := n0_; have HO_2 := n1_; have HB := n2_; clear n0_ n1_ n2_; ))
        go_ret
        exact ⟨_, rr_, vz_ HO_1.out, bz_⟩
       ·replace c20 := Bool.eq_false_iff.mpr c20
        subst c20
        have H1 := H
        rw [if_neg (show ¬ (false = true) by decide)] at H1
        clear H
        have H := H1
        clear H1
        have H' := Aside0.mk H
        clear H
        go_wp2_with (first | ((with_reducible refine gate_callee (f := 117) rfl ?_); refine goesL_ (some 21) rfl rfl Try.func117 (by kernel_rfl) rfl #[.slice A1 l1.length c1] rfl mz_ ?_; (with_reducible refine (impl_isNone.calls kj5 _ _ l1 false _ ?side1 ?side2 A16.out).mono ?_); (case side1 => repeat (first | exact (Kd.V_reads' HO_1.out).2.2 | (with_reducible refine Kd.C_alloc ?_ _) | (with_reducible refine Kd.C_drewN ?_ _) | (with_reducible refine Kd.C_drew ?_))); (case side2 => exact (Kd.V_reads' HO_1.out).2.1); rintro e w23 ⟨rfl, hb⟩; refine ⟨_, rfl, ?_⟩; have n0_ := Aside0.mk (Kd.V_below (vz_ HO_1.out) hb); have n1_ := Aside0.mk (Kd.V_below (vz_ HO_2.out) hb); have n2_ := Aside0.mk (below_step bz_ hb); clear HO_1; clear HO_2; clear HB; have HO_1 := n0_; have HO_2 := n1_; have HB := n2_; clear n0_ n1_ n2_; ) | ((with_reducible refine gate_callee (f := 117) rfl ?_); refine goesL_ (some 25) rfl rfl Try.func117 (by kernel_rfl) rfl #[.slice A2 l2.length c2] rfl mz_ ?_; (with_reducible refine (impl_isNone.calls kj5 _ _ l2 false _ ?side1 ?side2 A19.out).mono ?_); (case side1 => repeat (first | exact (Kd.V_reads' HO_2.out).2.2 | (with_reducible refine Kd.C_alloc ?_ _) | (with_reducible refine Kd.C_drewN ?_ _) | (with_reducible refine Kd.C_drew ?_))); (case side2 => exact (Kd.V_reads' HO_2.out).2.1); rintro e w24 ⟨rfl, hb⟩; refine ⟨_, rfl, ?_⟩; have n0_ := Aside0.mk (Kd.V_below (vz_ HO_1.out) hb); have n1_ := Aside0.mk (Kd.V_below (vz_ HO_2.out) hb); have n2_ := Aside0.mk (below_step bz_ hb); clear HO_1; clear HO_2; clear HB; have HO_1 := n0_; have HO_2 := n1_; have HB := n2_; clear n0_ n1_ n2_; ))
        go_meet
        case rel => exact ⟨_, H', ⟨by have := HJ5.out; first | omega | exact Nat.le_refl _⟩, ⟨by (with_reducible repeat (first | apply Kd.V_alloc | apply Kd.V_drewN | apply Kd.V_drew)); exact HO_1.out⟩, ⟨by (with_reducible repeat (first | apply Kd.V_alloc | apply Kd.V_drewN | apply Kd.V_drew)); exact HO_2.out⟩, ⟨bz_⟩⟩
  ·rw [if_neg c5] at H
   have c5b0 := q3_ c5
   have c5b1 := q4_ c5
   (first | rw [c5b0] | (simp only [i64_w, i32_w]; rw [c5b0]) | skip)
   by_cases c25 : a0 = 4
   ·rw [if_pos c25] at H
    have c25b0 := q1_ c25
    have c25b1 := q2_ c25
    clear c25
    have HC26 := Aside0.mk H
    clear H
    go_upto_region 10 with (fail)
    go_cut [29] (fun v29 wc => ∃ (kq : Nat) (x29_25 : Bool), v29 = .bool x29_25 ∧ Aside0 (impl_tidied.j1 kq a0 l1 l2 x29_25 = some r) ∧ Aside0 (kq ≤ k) ∧ Aside0 (Kd.V k49 49 wc w.heap.size (fun k_ => ((P1_ k_ ∨ P2_ k_) ∨ w.heap.size ≤ k_)) (.slice A1 l1.length c1) l1) ∧ Aside0 (Kd.V k49 49 wc w.heap.size (fun k_ => ((P1_ k_ ∨ P2_ k_) ∨ w.heap.size ≤ k_)) (.slice A2 l2.length c2) l2) ∧ Aside0 (Below w.heap.size w wc))
    case first =>
     have H := HC26.out
     clear HC26
     replace H := Option.bind_eq_some_iff.mp H
     obtain ⟨t446, A270, H⟩ := H
     try dsimp only at H
     have A27 := Aside0.mk A270
     clear A270
     by_cases c28 : t446 = true
     ·subst c28
      have H1 := H
      rw [if_pos rfl] at H1
      clear H
      have H := H1
      clear H1
      have H' := Aside0.mk H
      clear H
      go_wp2_with (first | ((with_reducible refine gate_callee (f := 116) rfl ?_); refine goesL_ (some 31) rfl rfl Try.func116 (by kernel_rfl) rfl #[.slice A1 l1.length c1] rfl mz_ ?_; (with_reducible refine (impl_isNothing.calls k _ _ l1 true _ ?side1 ?side2 A27.out).mono ?_); (case side1 => repeat (first | exact (Kd.V_reads' HO1.out).2.2 | (with_reducible refine Kd.C_alloc ?_ _) | (with_reducible refine Kd.C_drewN ?_ _) | (with_reducible refine Kd.C_drew ?_))); (case side2 => exact (Kd.V_reads' HO1.out).2.1); rintro e w29 ⟨rfl, hb⟩; refine ⟨_, rfl, ?_⟩; have n0_ := Aside0.mk (Kd.V_below (vz_ HO1.out) hb); have n1_ := Aside0.mk (Kd.V_below (vz_ HO2.out) hb); have n2_ := Aside0.mk (below_step bz_ hb); clear HO1; clear HO2; clear HB; have HO1 := n0_; have HO2 := n1_; have HB := n2_; clear n0_ n1_ n2_; ))
      go_meet
      case rel => exact ⟨_, (true), rs_, H', ⟨by first | omega | exact Nat.le_refl _⟩, ⟨by (with_reducible repeat (first | apply Kd.V_alloc | apply Kd.V_drewN | apply Kd.V_drew)); exact HO1.out⟩, ⟨by (with_reducible repeat (first | apply Kd.V_alloc | apply Kd.V_drewN | apply Kd.V_drew)); exact HO2.out⟩, ⟨bz_⟩⟩
     ·replace c28 := Bool.eq_false_iff.mpr c28
      subst c28
      have H1 := H
      rw [if_neg (show ¬ (false = true) by decide)] at H1
      clear H
      have H := H1
      clear H1
      replace H := Option.bind_eq_some_iff.mp H
      obtain ⟨t447, A300, H⟩ := H
      try dsimp only at H
      have A30 := Aside0.mk A300
      clear A300
      have H' := Aside0.mk H
      clear H
      go_wp2_with (first | ((with_reducible refine gate_callee (f := 116) rfl ?_); refine goesL_ (some 31) rfl rfl Try.func116 (by kernel_rfl) rfl #[.slice A1 l1.length c1] rfl mz_ ?_; (with_reducible refine (impl_isNothing.calls k _ _ l1 false _ ?side1 ?side2 A27.out).mono ?_); (case side1 => repeat (first | exact (Kd.V_reads' HO1.out).2.2 | (with_reducible refine Kd.C_alloc ?_ _) | (with_reducible refine Kd.C_drewN ?_ _) | (with_reducible refine Kd.C_drew ?_))); (case side2 => exact (Kd.V_reads' HO1.out).2.1); rintro e w31 ⟨rfl, hb⟩; refine ⟨_, rfl, ?_⟩; have n0_ := Aside0.mk (Kd.V_below (vz_ HO1.out) hb); have n1_ := Aside0.mk (Kd.V_below (vz_ HO2.out) hb); have n2_ := Aside0.mk (below_step bz_ hb); clear HO1; clear HO2; clear HB; have HO1 := n0_; have HO2 := n1_; have HB := n2_; clear n0_ n1_ n2_; ) | (go_at_call 118; (with_reducible refine (impl_samePat.calls k _ _ l1 _ _ l2 t447 _ ?side1 ?side2 ?side3 ?side4 A30.out).mono ?_); (case side1 => repeat (first | exact (Kd.V_reads' HO1.out).2.2 | (with_reducible refine Kd.C_alloc ?_ _) | (with_reducible refine Kd.C_drewN ?_ _) | (with_reducible refine Kd.C_drew ?_))); (case side2 => exact (Kd.V_reads' HO1.out).2.1); (case side3 => repeat (first | exact (Kd.V_reads' HO2.out).2.2 | (with_reducible refine Kd.C_alloc ?_ _) | (with_reducible refine Kd.C_drewN ?_ _) | (with_reducible refine Kd.C_drew ?_))); (case side4 => exact (Kd.V_reads' HO2.out).2.1); rintro e w32 ⟨rfl, hb⟩; have n0_ := Aside0.mk (Kd.V_below (vz_ HO1.out) hb); have n1_ := Aside0.mk (Kd.V_below (vz_ HO2.out) hb); have n2_ := Aside0.mk (below_step bz_ hb); clear HO1; clear HO2; clear HB; have HO1 := n0_; have HO2 := n1_; have HB := n2_; clear n0_ n1_ n2_; ))
      go_meet
      case rel => exact ⟨_, (t447), rs_, H', ⟨by first | omega | exact Nat.le_refl _⟩, ⟨by (with_reducible repeat (first | apply Kd.V_alloc | apply Kd.V_drewN | apply Kd.V_drew)); exact HO1.out⟩, ⟨by (with_reducible repeat (first | apply Kd.V_alloc | apply Kd.V_drewN | apply Kd.V_drew)); exact HO2.out⟩, ⟨bz_⟩⟩
    case rest =>
     clear HC26
     try clear c1
     try clear c2
     try clear p2
     try clear c5
     try clear c5b0
     try clear c5b1
     try clear p6
     try clear c8
     try clear c9
     try clear c10
     try clear c11
     try clear c13
     try clear c17
     try clear c20
     try clear c25
     try clear c25b0
     try clear c25b1
     try clear c28
     try clear p2
     try clear p6
     obtain ⟨kq, x29_25, rfl, HA, HJ25, HO_1, HO_2, HB⟩ := hcut
     cases kq with
     | zero => exact absurd HA.out (by simp [impl_tidied.j1])
     | succ kj25 =>
      have H := HA.out
      clear HA
      simp only [impl_tidied.j1] at H
      by_cases c33 : x29_25 = true
      ·subst c33
       have H1 := H
       rw [if_pos rfl] at H1
       clear H
       have H := H1
       clear H1
       obtain rfl := Option.some.inj H
       go_wp2
       go_ret
       exact ⟨_, rr_, vz_ HO_2.out, bz_⟩
      ·replace c33 := Bool.eq_false_iff.mpr c33
       subst c33
       have H1 := H
       rw [if_neg (show ¬ (false = true) by decide)] at H1
       clear H
       have H := H1
       clear H1
       replace H := Option.bind_eq_some_iff.mp H
       obtain ⟨t448, A340, H⟩ := H
       try dsimp only at H
       have A34 := Aside0.mk A340
       clear A340
       by_cases c35 : t448 = true
       ·subst c35
        have H1 := H
        rw [if_pos rfl] at H1
        clear H
        have H := H1
        clear H1
        obtain rfl := Option.some.inj H
        go_wp2_with (first | ((with_reducible refine gate_callee (f := 116) rfl ?_); refine goesL_ (some 40) rfl rfl Try.func116 (by kernel_rfl) rfl #[.slice A2 l2.length c2] rfl mz_ ?_; (with_reducible refine (impl_isNothing.calls kj25 _ _ l2 true _ ?side1 ?side2 A34.out).mono ?_); (case side1 => repeat (first | exact (Kd.V_reads' HO_2.out).2.2 | (with_reducible refine Kd.C_alloc ?_ _) | (with_reducible refine Kd.C_drewN ?_ _) | (with_reducible refine Kd.C_drew ?_))); (case side2 => exact (Kd.V_reads' HO_2.out).2.1); rintro e w36 ⟨rfl, hb⟩; refine ⟨_, rfl, ?_⟩; have n0_ := Aside0.mk (Kd.V_below (vz_ HO_1.out) hb); have n1_ := Aside0.mk (Kd.V_below (vz_ HO_2.out) hb); have n2_ := Aside0.mk (below_step bz_ hb); clear HO_1; clear HO_2; clear HB; have HO_1 := n0_; have HO_2 := n1_; have HB := n2_; clear n0_ n1_ n2_; ))
        go_ret
        exact ⟨_, rr_, vz_ HO_1.out, bz_⟩
       ·replace c35 := Bool.eq_false_iff.mpr c35
        subst c35
        have H1 := H
        rw [if_neg (show ¬ (false = true) by decide)] at H1
        clear H
        have H := H1
        clear H1
        have H' := Aside0.mk H
        clear H
        go_wp2_with (first | ((with_reducible refine gate_callee (f := 116) rfl ?_); refine goesL_ (some 40) rfl rfl Try.func116 (by kernel_rfl) rfl #[.slice A2 l2.length c2] rfl mz_ ?_; (with_reducible refine (impl_isNothing.calls kj25 _ _ l2 false _ ?side1 ?side2 A34.out).mono ?_); (case side1 => repeat (first | exact (Kd.V_reads' HO_2.out).2.2 | (with_reducible refine Kd.C_alloc ?_ _) | (with_reducible refine Kd.C_drewN ?_ _) | (with_reducible refine Kd.C_drew ?_))); (case side2 => exact (Kd.V_reads' HO_2.out).2.1); rintro e w37 ⟨rfl, hb⟩; refine ⟨_, rfl, ?_⟩; have n0_ := Aside0.mk (Kd.V_below (vz_ HO_1.out) hb); have n1_ := Aside0.mk (Kd.V_below (vz_ HO_2.out) hb); have n2_ := Aside0.mk (below_step bz_ hb); clear HO_1; clear HO_2; clear HB; have HO_1 := n0_; have HO_2 := n1_; have HB := n2_; clear n0_ n1_ n2_; ))
        go_meet
        case rel => exact ⟨_, H', ⟨by have := HJ25.out; first | omega | exact Nat.le_refl _⟩, ⟨by (with_reducible repeat (first | apply Kd.V_alloc | apply Kd.V_drewN | apply Kd.V_drew)); exact HO_1.out⟩, ⟨by (with_reducible repeat (first | apply Kd.V_alloc | apply Kd.V_drewN | apply Kd.V_drew)); exact HO_2.out⟩, ⟨bz_⟩⟩
   ·rw [if_neg c25] at H
    have c25b0 := q3_ c25
    have c25b1 := q4_ c25
    by_cases c38 : a0 = 5
    ·rw [if_pos c38] at H
     have c38b0 := q1_ c38
     have c38b1 := q2_ c38
     clear c38
     have HC39 := Aside0.mk H
     clear H
     go_upto_region 15 with (fail)
     go_cut [44] (fun v44 wc => ∃ (kq : Nat) (x44_38 : Bool), v44 = .bool x44_38 ∧ Aside0 (impl_tidied.j2 kq a0 l1 l2 x44_38 = some r) ∧ Aside0 (kq ≤ k) ∧ Aside0 (Kd.V k49 49 wc w.heap.size (fun k_ => ((P1_ k_ ∨ P2_ k_) ∨ w.heap.size ≤ k_)) (.slice A1 l1.length c1) l1) ∧ Aside0 (Kd.V k49 49 wc w.heap.size (fun k_ => ((P1_ k_ ∨ P2_ k_) ∨ w.heap.size ≤ k_)) (.slice A2 l2.length c2) l2) ∧ Aside0 (Below w.heap.size w wc))
     case first =>
      have H := HC39.out
      clear HC39
      replace H := Option.bind_eq_some_iff.mp H
      obtain ⟨t449, A400, H⟩ := H
      try dsimp only at H
      have A40 := Aside0.mk A400
      clear A400
      by_cases c41 : t449 = true
      ·subst c41
       have H1 := H
       rw [if_pos rfl] at H1
       clear H
       have H := H1
       clear H1
       have H' := Aside0.mk H
       clear H
       go_wp2_with (first | ((with_reducible refine gate_callee (f := 116) rfl ?_); refine goesL_ (some 46) rfl rfl Try.func116 (by kernel_rfl) rfl #[.slice A1 l1.length c1] rfl mz_ ?_; (with_reducible refine (impl_isNothing.calls k _ _ l1 true _ ?side1 ?side2 A40.out).mono ?_); (case side1 => repeat (first | exact (Kd.V_reads' HO1.out).2.2 | (with_reducible refine Kd.C_alloc ?_ _) | (with_reducible refine Kd.C_drewN ?_ _) | (with_reducible refine Kd.C_drew ?_))); (case side2 => exact (Kd.V_reads' HO1.out).2.1); rintro e w42 ⟨rfl, hb⟩; refine ⟨_, rfl, ?_⟩; have n0_ := Aside0.mk (Kd.V_below (vz_ HO1.out) hb); have n1_ := Aside0.mk (Kd.V_below (vz_ HO2.out) hb); have n2_ := Aside0.mk (below_step bz_ hb); clear HO1; clear HO2; clear HB; have HO1 := n0_; have HO2 := n1_; have HB := n2_; clear n0_ n1_ n2_; ))
       go_meet
       case rel => exact ⟨_, (true), rs_, H', ⟨by first | omega | exact Nat.le_refl _⟩, ⟨by (with_reducible repeat (first | apply Kd.V_alloc | apply Kd.V_drewN | apply Kd.V_drew)); exact HO1.out⟩, ⟨by (with_reducible repeat (first | apply Kd.V_alloc | apply Kd.V_drewN | apply Kd.V_drew)); exact HO2.out⟩, ⟨bz_⟩⟩
      ·replace c41 := Bool.eq_false_iff.mpr c41
       subst c41
       have H1 := H
       rw [if_neg (show ¬ (false = true) by decide)] at H1
       clear H
       have H := H1
       clear H1
       replace H := Option.bind_eq_some_iff.mp H
       obtain ⟨t450, A430, H⟩ := H
       try dsimp only at H
       have A43 := Aside0.mk A430
       clear A430
       have H' := Aside0.mk H
       clear H
       go_wp2_with (first | ((with_reducible refine gate_callee (f := 116) rfl ?_); refine goesL_ (some 46) rfl rfl Try.func116 (by kernel_rfl) rfl #[.slice A1 l1.length c1] rfl mz_ ?_; (with_reducible refine (impl_isNothing.calls k _ _ l1 false _ ?side1 ?side2 A40.out).mono ?_); (case side1 => repeat (first | exact (Kd.V_reads' HO1.out).2.2 | (with_reducible refine Kd.C_alloc ?_ _) | (with_reducible refine Kd.C_drewN ?_ _) | (with_reducible refine Kd.C_drew ?_))); (case side2 => exact (Kd.V_reads' HO1.out).2.1); rintro e w44 ⟨rfl, hb⟩; refine ⟨_, rfl, ?_⟩; have n0_ := Aside0.mk (Kd.V_below (vz_ HO1.out) hb); have n1_ := Aside0.mk (Kd.V_below (vz_ HO2.out) hb); have n2_ := Aside0.mk (below_step bz_ hb); clear HO1; clear HO2; clear HB; have HO1 := n0_; have HO2 := n1_; have HB := n2_; clear n0_ n1_ n2_; ) | (go_at_call 116; (with_reducible refine (impl_isNothing.calls k _ _ l2 t450 _ ?side1 ?side2 A43.out).mono ?_); (case side1 => repeat (first | exact (Kd.V_reads' HO2.out).2.2 | (with_reducible refine Kd.C_alloc ?_ _) | (with_reducible refine Kd.C_drewN ?_ _) | (with_reducible refine Kd.C_drew ?_))); (case side2 => exact (Kd.V_reads' HO2.out).2.1); rintro e w45 ⟨rfl, hb⟩; have n0_ := Aside0.mk (Kd.V_below (vz_ HO1.out) hb); have n1_ := Aside0.mk (Kd.V_below (vz_ HO2.out) hb); have n2_ := Aside0.mk (below_step bz_ hb); clear HO1; clear HO2; clear HB; have HO1 := n0_; have HO2 := n1_; have HB := n2_; clear n0_ n1_ n2_; ))
       go_meet
       case rel => exact ⟨_, (t450), rs_, H', ⟨by first | omega | exact Nat.le_refl _⟩, ⟨by (with_reducible repeat (first | apply Kd.V_alloc | apply Kd.V_drewN | apply Kd.V_drew)); exact HO1.out⟩, ⟨by (with_reducible repeat (first | apply Kd.V_alloc | apply Kd.V_drewN | apply Kd.V_drew)); exact HO2.out⟩, ⟨bz_⟩⟩
     case rest =>
      clear HC39
      try clear c1
      try clear c2
      try clear p2
      try clear c3
      try clear c4
      try clear c5
      try clear c5b0
      try clear c5b1
      try clear p6
      try clear c8
      try clear c9
      try clear c10
      try clear c11
      try clear c13
      try clear c17
      try clear c20
      try clear c25
      try clear c25b0
      try clear c25b1
      try clear c28
      try clear c33
      try clear c35
      try clear c38
      try clear c38b0
      try clear c38b1
      try clear c41
      try clear p2
      try clear p6
      obtain ⟨kq, x44_38, rfl, HA, HJ38, HO_1, HO_2, HB⟩ := hcut
      cases kq with
      | zero => exact absurd HA.out (by simp [impl_tidied.j2])
      | succ kj38 =>
       have H := HA.out
       clear HA
       simp only [impl_tidied.j2] at H
       by_cases c46 : x44_38 = true
       ·subst c46
        have H1 := H
        rw [if_pos rfl] at H1
        clear H
        have H := H1
        clear H1
        replace H := Option.bind_eq_some_iff.mp H
        obtain ⟨t451, A470, H⟩ := H
        try dsimp only at H
        have A47 := Aside0.mk A470
        clear A470
        obtain rfl := Option.some.inj H
        go_wp2_with (first | ((with_reducible refine gate_callee (f := 108) rfl ?_); refine goesL_ (some 51) rfl rfl Try.func108 (by kernel_rfl) rfl #[] rfl mz_ ?_; (with_reducible refine (impl_nothing.calls  t451 _ A47.out).mono ?_); rintro e w48 ⟨v452, rfl, ho0, hb⟩; refine ⟨_, rfl, ?_⟩; have n0_ := Aside0.mk (Kd.V_elder' (vz_ HO_1.out) (kb_ ho0) hb); have n1_ := Aside0.mk (Kd.V_elder' (vz_ HO_2.out) (kb_ ho0) hb); have n2_ := Aside0.mk (Kd.N_lower (Kd.N_mono (ok' := fun k_ => ((P1_ k_ ∨ P2_ k_) ∨ w.heap.size ≤ k_)) (Kd.S_N (Kd.S_bound ho0)) (fun k_ hk_ => (.inr (Nat.le_trans (below_size bz_) hk_.2.1)))) (below_size bz_)); have n3_ := Aside0.mk (below_step bz_ hb); clear HO_1; clear HO_2; clear HB; have HO_1 := n0_; have HO_2 := n1_; have HO453 := n2_; have HB := n3_; clear n0_ n1_ n2_ n3_; (try clear ho0)))
        go_ret
        exact ⟨_, rr_, Kd.N_V (nz_ HO453.out), bz_⟩
       ·replace c46 := Bool.eq_false_iff.mpr c46
        subst c46
        have H1 := H
        rw [if_neg (show ¬ (false = true) by decide)] at H1
        clear H
        have H := H1
        clear H1
        replace H := Option.bind_eq_some_iff.mp H
        obtain ⟨t454, A490, H⟩ := H
        try dsimp only at H
        have A49 := Aside0.mk A490
        clear A490
        by_cases c50 : t454 = true
        ·subst c50
         have H1 := H
         rw [if_pos rfl] at H1
         clear H
         have H := H1
         clear H1
         obtain rfl := Option.some.inj H
         go_wp2_with (first | ((with_reducible refine gate_callee (f := 118) rfl ?_); refine goesL_ (some 55) rfl rfl Try.func118 (by kernel_rfl) rfl #[.slice A1 l1.length c1, .slice A2 l2.length c2] rfl mz_ ?_; (with_reducible refine (impl_samePat.calls kj38 _ _ l1 _ _ l2 true _ ?side1 ?side2 ?side3 ?side4 A49.out).mono ?_); (case side1 => repeat (first | exact (Kd.V_reads' HO_1.out).2.2 | (with_reducible refine Kd.C_alloc ?_ _) | (with_reducible refine Kd.C_drewN ?_ _) | (with_reducible refine Kd.C_drew ?_))); (case side2 => exact (Kd.V_reads' HO_1.out).2.1); (case side3 => repeat (first | exact (Kd.V_reads' HO_2.out).2.2 | (with_reducible refine Kd.C_alloc ?_ _) | (with_reducible refine Kd.C_drewN ?_ _) | (with_reducible refine Kd.C_drew ?_))); (case side4 => exact (Kd.V_reads' HO_2.out).2.1); rintro e w51 ⟨rfl, hb⟩; refine ⟨_, rfl, ?_⟩; have n0_ := Aside0.mk (Kd.V_below (vz_ HO_1.out) hb); have n1_ := Aside0.mk (Kd.V_below (vz_ HO_2.out) hb); have n2_ := Aside0.mk (below_step bz_ hb); clear HO_1; clear HO_2; clear HB; have HO_1 := n0_; have HO_2 := n1_; have HB := n2_; clear n0_ n1_ n2_; ))
         go_ret
         exact ⟨_, rr_, vz_ HO_1.out, bz_⟩
        ·replace c50 := Bool.eq_false_iff.mpr c50
         subst c50
         have H1 := H
         rw [if_neg (show ¬ (false = true) by decide)] at H1
         clear H
         have H := H1
         clear H1
         have H' := Aside0.mk H
         clear H
         go_wp2_with (first | ((with_reducible refine gate_callee (f := 118) rfl ?_); refine goesL_ (some 55) rfl rfl Try.func118 (by kernel_rfl) rfl #[.slice A1 l1.length c1, .slice A2 l2.length c2] rfl mz_ ?_; (with_reducible refine (impl_samePat.calls kj38 _ _ l1 _ _ l2 false _ ?side1 ?side2 ?side3 ?side4 A49.out).mono ?_); (case side1 => repeat (first | exact (Kd.V_reads' HO_1.out).2.2 | (with_reducible refine Kd.C_alloc ?_ _) | (with_reducible refine Kd.C_drewN ?_ _) | (with_reducible refine Kd.C_drew ?_))); (case side2 => exact (Kd.V_reads' HO_1.out).2.1); (case side3 => repeat (first | exact (Kd.V_reads' HO_2.out).2.2 | (with_reducible refine Kd.C_alloc ?_ _) | (with_reducible refine Kd.C_drewN ?_ _) | (with_reducible refine Kd.C_drew ?_))); (case side4 => exact (Kd.V_reads' HO_2.out).2.1); rintro e w52 ⟨rfl, hb⟩; refine ⟨_, rfl, ?_⟩; have n0_ := Aside0.mk (Kd.V_below (vz_ HO_1.out) hb); have n1_ := Aside0.mk (Kd.V_below (vz_ HO_2.out) hb); have n2_ := Aside0.mk (below_step bz_ hb); clear HO_1; clear HO_2; clear HB; have HO_1 := n0_; have HO_2 := n1_; have HB := n2_; clear n0_ n1_ n2_; ))
         go_meet
         case rel => exact ⟨_, H', ⟨by have := HJ38.out; first | omega | exact Nat.le_refl _⟩, ⟨by (with_reducible repeat (first | apply Kd.V_alloc | apply Kd.V_drewN | apply Kd.V_drew)); exact HO_1.out⟩, ⟨by (with_reducible repeat (first | apply Kd.V_alloc | apply Kd.V_drewN | apply Kd.V_drew)); exact HO_2.out⟩, ⟨bz_⟩⟩
    ·rw [if_neg c38] at H
     have c38b0 := q3_ c38
     have c38b1 := q4_ c38
     by_cases c53 : a0 = 6
     ·rw [if_pos c53] at H
      have c53b0 := q1_ c53
      have c53b1 := q2_ c53
      clear c53
      have HC54 := Aside0.mk H
      clear H
      go_upto_region 20 with (fail)
      go_cut [59] (fun v59 wc => ∃ (kq : Nat) (x59_53 : Bool), v59 = .bool x59_53 ∧ Aside0 (impl_tidied.j3 kq a0 l1 l2 x59_53 = some r) ∧ Aside0 (kq ≤ k) ∧ Aside0 (Kd.V k49 49 wc w.heap.size (fun k_ => ((P1_ k_ ∨ P2_ k_) ∨ w.heap.size ≤ k_)) (.slice A1 l1.length c1) l1) ∧ Aside0 (Kd.V k49 49 wc w.heap.size (fun k_ => ((P1_ k_ ∨ P2_ k_) ∨ w.heap.size ≤ k_)) (.slice A2 l2.length c2) l2) ∧ Aside0 (Below w.heap.size w wc))
      case first =>
       have H := HC54.out
       clear HC54
       replace H := Option.bind_eq_some_iff.mp H
       obtain ⟨t455, A550, H⟩ := H
       try dsimp only at H
       have A55 := Aside0.mk A550
       clear A550
       by_cases c56 : t455 = true
       ·subst c56
        have H1 := H
        rw [if_pos rfl] at H1
        clear H
        have H := H1
        clear H1
        have H' := Aside0.mk H
        clear H
        go_wp2_with (first | ((with_reducible refine gate_callee (f := 117) rfl ?_); refine goesL_ (some 61) rfl rfl Try.func117 (by kernel_rfl) rfl #[.slice A1 l1.length c1] rfl mz_ ?_; (with_reducible refine (impl_isNone.calls k _ _ l1 true _ ?side1 ?side2 A55.out).mono ?_); (case side1 => repeat (first | exact (Kd.V_reads' HO1.out).2.2 | (with_reducible refine Kd.C_alloc ?_ _) | (with_reducible refine Kd.C_drewN ?_ _) | (with_reducible refine Kd.C_drew ?_))); (case side2 => exact (Kd.V_reads' HO1.out).2.1); rintro e w57 ⟨rfl, hb⟩; refine ⟨_, rfl, ?_⟩; have n0_ := Aside0.mk (Kd.V_below (vz_ HO1.out) hb); have n1_ := Aside0.mk (Kd.V_below (vz_ HO2.out) hb); have n2_ := Aside0.mk (below_step bz_ hb); clear HO1; clear HO2; clear HB; have HO1 := n0_; have HO2 := n1_; have HB := n2_; clear n0_ n1_ n2_; ))
        go_meet
        case rel => exact ⟨_, (true), rs_, H', ⟨by first | omega | exact Nat.le_refl _⟩, ⟨by (with_reducible repeat (first | apply Kd.V_alloc | apply Kd.V_drewN | apply Kd.V_drew)); exact HO1.out⟩, ⟨by (with_reducible repeat (first | apply Kd.V_alloc | apply Kd.V_drewN | apply Kd.V_drew)); exact HO2.out⟩, ⟨bz_⟩⟩
       ·replace c56 := Bool.eq_false_iff.mpr c56
        subst c56
        have H1 := H
        rw [if_neg (show ¬ (false = true) by decide)] at H1
        clear H
        have H := H1
        clear H1
        replace H := Option.bind_eq_some_iff.mp H
        obtain ⟨t456, A580, H⟩ := H
        try dsimp only at H
        have A58 := Aside0.mk A580
        clear A580
        have H' := Aside0.mk H
        clear H
        go_wp2_with (first | ((with_reducible refine gate_callee (f := 117) rfl ?_); refine goesL_ (some 61) rfl rfl Try.func117 (by kernel_rfl) rfl #[.slice A1 l1.length c1] rfl mz_ ?_; (with_reducible refine (impl_isNone.calls k _ _ l1 false _ ?side1 ?side2 A55.out).mono ?_); (case side1 => repeat (first | exact (Kd.V_reads' HO1.out).2.2 | (with_reducible refine Kd.C_alloc ?_ _) | (with_reducible refine Kd.C_drewN ?_ _) | (with_reducible refine Kd.C_drew ?_))); (case side2 => exact (Kd.V_reads' HO1.out).2.1); rintro e w59 ⟨rfl, hb⟩; refine ⟨_, rfl, ?_⟩; have n0_ := Aside0.mk (Kd.V_below (vz_ HO1.out) hb); have n1_ := Aside0.mk (Kd.V_below (vz_ HO2.out) hb); have n2_ := Aside0.mk (below_step bz_ hb); clear HO1; clear HO2; clear HB; have HO1 := n0_; have HO2 := n1_; have HB := n2_; clear n0_ n1_ n2_; ) | (go_at_call 116; (with_reducible refine (impl_isNothing.calls k _ _ l1 t456 _ ?side1 ?side2 A58.out).mono ?_); (case side1 => repeat (first | exact (Kd.V_reads' HO1.out).2.2 | (with_reducible refine Kd.C_alloc ?_ _) | (with_reducible refine Kd.C_drewN ?_ _) | (with_reducible refine Kd.C_drew ?_))); (case side2 => exact (Kd.V_reads' HO1.out).2.1); rintro e w60 ⟨rfl, hb⟩; have n0_ := Aside0.mk (Kd.V_below (vz_ HO1.out) hb); have n1_ := Aside0.mk (Kd.V_below (vz_ HO2.out) hb); have n2_ := Aside0.mk (below_step bz_ hb); clear HO1; clear HO2; clear HB; have HO1 := n0_; have HO2 := n1_; have HB := n2_; clear n0_ n1_ n2_; ))
        go_meet
        case rel => exact ⟨_, (t456), rs_, H', ⟨by first | omega | exact Nat.le_refl _⟩, ⟨by (with_reducible repeat (first | apply Kd.V_alloc | apply Kd.V_drewN | apply Kd.V_drew)); exact HO1.out⟩, ⟨by (with_reducible repeat (first | apply Kd.V_alloc | apply Kd.V_drewN | apply Kd.V_drew)); exact HO2.out⟩, ⟨bz_⟩⟩
      case rest =>
       clear HC54
       try clear c1
       try clear c2
       try clear p2
       try clear c3
       try clear c4
       try clear c5
       try clear c5b0
       try clear c5b1
       try clear p6
       try clear c8
       try clear c9
       try clear c10
       try clear c11
       try clear c13
       try clear c17
       try clear c20
       try clear c25
       try clear c25b0
       try clear c25b1
       try clear c28
       try clear c33
       try clear c35
       try clear c38
       try clear c38b0
       try clear c38b1
       try clear c41
       try clear c46
       try clear c50
       try clear c53
       try clear c53b0
       try clear c53b1
       try clear c56
       try clear p2
       try clear p6
       obtain ⟨kq, x59_53, rfl, HA, HJ53, HO_1, HO_2, HB⟩ := hcut
       cases kq with
       | zero => exact absurd HA.out (by simp [impl_tidied.j3])
       | succ kj53 =>
        have H := HA.out
        clear HA
        simp only [impl_tidied.j3] at H
        by_cases c61 : x59_53 = true
        ·subst c61
         have H1 := H
         rw [if_pos rfl] at H1
         clear H
         have H := H1
         clear H1
         replace H := Option.bind_eq_some_iff.mp H
         obtain ⟨t457, A620, H⟩ := H
         try dsimp only at H
         have A62 := Aside0.mk A620
         clear A620
         obtain rfl := Option.some.inj H
         go_wp2_with (first | ((with_reducible refine gate_callee (f := 89) rfl ?_); refine goesL_ (some 66) rfl rfl Try.func89 (by kernel_rfl) rfl #[] rfl mz_ ?_; (with_reducible refine (impl_none.calls  t457 _ A62.out).mono ?_); rintro e w63 ⟨v458, rfl, ho0, hb⟩; refine ⟨_, rfl, ?_⟩; have n0_ := Aside0.mk (Kd.V_elder' (vz_ HO_1.out) (kb_ ho0) hb); have n1_ := Aside0.mk (Kd.V_elder' (vz_ HO_2.out) (kb_ ho0) hb); have n2_ := Aside0.mk (Kd.N_lower (Kd.N_mono (ok' := fun k_ => ((P1_ k_ ∨ P2_ k_) ∨ w.heap.size ≤ k_)) (Kd.S_N (Kd.S_bound ho0)) (fun k_ hk_ => (.inr (Nat.le_trans (below_size bz_) hk_.2.1)))) (below_size bz_)); have n3_ := Aside0.mk (below_step bz_ hb); clear HO_1; clear HO_2; clear HB; have HO_1 := n0_; have HO_2 := n1_; have HO459 := n2_; have HB := n3_; clear n0_ n1_ n2_ n3_; (try clear ho0)))
         go_ret
         exact ⟨_, rr_, Kd.N_V (nz_ HO459.out), bz_⟩
        ·replace c61 := Bool.eq_false_iff.mpr c61
         subst c61
         have H1 := H
         rw [if_neg (show ¬ (false = true) by decide)] at H1
         clear H
         have H := H1
         clear H1
         obtain ⟨ji64, hji64⟩ : ∃ j_ : Int, (wrap64 ((l1.length : Int) - 1)) = j_ := ⟨_, rfl⟩
         replace H : (if 0 ≤ (ji64) then (if (ji64) < (l1.length : Int) then (if ((rd_T49 l1 (ji64)).f0) = 6 then (some l1) else (impl_tidied.j4 kj53 a0 l1 l2)) else (none)) else (none)) = some r := jz_ hji64 H
         have hji64w : (IntKind.i64.wrap ((l1.length : Int) - 1)) = ji64 := (i64_w _).trans hji64
         by_cases c65 : 0 ≤ (ji64)
         ·rw [if_pos c65] at H
          have c65b0 := decide_eq_true c65
          clear c65
          by_cases c66 : (ji64) < (l1.length : Int)
          ·rw [if_pos c66] at H
           have c66b0 := decide_eq_true c66
           clear c66
           by_cases c67 : ((rd_T49 l1 (ji64)).f0) = 6
           ·rw [if_pos c67] at H
            have c67b0 := q1_ c67
            have c67b1 := q2_ c67
            clear c67
            obtain rfl := Option.some.inj H
            have p460 : 0 ≤ ((ji64) : Int) := of_decide_eq_true az_
            have q460 : (ji64) < (l1.length : Int) := of_decide_eq_true az_
            obtain ⟨ad460, A460_1, c460_1, e460, hx460_0, hx460_1, hl460_1, hi460_1⟩ := at_T49 (Kd.V_reads' HO_1.out).2.2 (ji64) p460 q460
            cases e460
            obtain ⟨ce460, hce460, hMe460, hcc460⟩ := Kd.V_get HO_1.out z49 (ji64) p460 (by first | exact q460 | exact of_decide_eq_true az_ | (have e_ := (Kd.V_reads' HO_1.out).1; omega))
            obtain ⟨ua460_1, uc460_1, rfl, ul460_1, ge460_1⟩ := k49_openF hMe460
            have hv460_1 := hcc460 1 _ rfl
            rw [add_field _ _ 1 (by omega)] at hv460_1
            replace hv460_1 := Option.some.inj (hv460_1.symm.trans hx460_1)
            injection hv460_1 with hva_ hvn_ hvc_
            rw [hva_] at ge460_1
            rw [hvc_] at ul460_1
            have HL460_1 := Aside0.mk (show Kd.V (Kd.int .i64) 3 _ w.heap.size _ _ ((rd_T49 l1 (ji64)).f1) from Kd.V_mk ul460_1 ge460_1)
            clear hva_ hvn_ hvc_ ge460_1 ul460_1
            clear hcc460 hce460
            have HR460_1 := Aside0.mk hi460_1
            have HC460_1 := Aside0.mk hl460_1
            clear hi460_1 hl460_1
            replace p460 := eq_true p460
            replace q460 := eq_true q460
            go_wp2
            go_ret
            exact ⟨_, by first | rfl | (simp [errW_none, errW_some] <;> rfl) | (simp only [← hji64]; first | rfl | (simp [errW_none, errW_some] <;> rfl)) | (simp [*, errW_none, errW_some] <;> rfl), vz_ HO_1.out, bz_⟩
           ·rw [if_neg c67] at H
            have c67b0 := q3_ c67
            have c67b1 := q4_ c67
            have H' := Aside0.mk H
            clear H
            have p460 : 0 ≤ ((ji64) : Int) := of_decide_eq_true az_
            have q460 : (ji64) < (l1.length : Int) := of_decide_eq_true az_
            obtain ⟨ad460, A460_1, c460_1, e460, hx460_0, hx460_1, hl460_1, hi460_1⟩ := at_T49 (Kd.V_reads' HO_1.out).2.2 (ji64) p460 q460
            cases e460
            obtain ⟨ce460, hce460, hMe460, hcc460⟩ := Kd.V_get HO_1.out z49 (ji64) p460 (by first | exact q460 | exact of_decide_eq_true az_ | (have e_ := (Kd.V_reads' HO_1.out).1; omega))
            obtain ⟨ua460_1, uc460_1, rfl, ul460_1, ge460_1⟩ := k49_openF hMe460
            have hv460_1 := hcc460 1 _ rfl
            rw [add_field _ _ 1 (by omega)] at hv460_1
            replace hv460_1 := Option.some.inj (hv460_1.symm.trans hx460_1)
            injection hv460_1 with hva_ hvn_ hvc_
            rw [hva_] at ge460_1
            rw [hvc_] at ul460_1
            have HL460_1 := Aside0.mk (show Kd.V (Kd.int .i64) 3 _ w.heap.size _ _ ((rd_T49 l1 (ji64)).f1) from Kd.V_mk ul460_1 ge460_1)
            clear hva_ hvn_ hvc_ ge460_1 ul460_1
            clear hcc460 hce460
            have HR460_1 := Aside0.mk hi460_1
            have HC460_1 := Aside0.mk hl460_1
            clear hi460_1 hl460_1
            replace p460 := eq_true p460
            replace q460 := eq_true q460
            go_wp2
            go_meet
            case rel => exact ⟨_, H', ⟨by have := HJ53.out; first | omega | exact Nat.le_refl _⟩, ⟨by (with_reducible repeat (first | apply Kd.V_alloc | apply Kd.V_drewN | apply Kd.V_drew)); exact HO_1.out⟩, ⟨by (with_reducible repeat (first | apply Kd.V_alloc | apply Kd.V_drewN | apply Kd.V_drew)); exact HO_2.out⟩, ⟨bz_⟩⟩
          ·rw [if_neg c66] at H
           exact absurd H (by simp)
         ·rw [if_neg c65] at H
          exact absurd H (by simp)
     ·rw [if_neg c53] at H
      have c53b0 := q3_ c53
      have c53b1 := q4_ c53
      by_cases c68 : a0 = 7
      ·rw [if_pos c68] at H
       have c68b0 := q1_ c68
       have c68b1 := q2_ c68
       clear c68
       obtain ⟨ji69, hji69⟩ : ∃ j_ : Int, (wrap64 ((l1.length : Int) - 1)) = j_ := ⟨_, rfl⟩
       replace H : (if 0 ≤ (ji69) then (if (ji69) < (l1.length : Int) then (if ((rd_T49 l1 (ji69)).f0) = 7 then (if (ji69) ≤ (l1.length : Int) then (some (l1.take ((ji69) : Int).toNat)) else (none)) else (impl_tidied.j4 k a0 l1 l2)) else (none)) else (none)) = some r := jz_ hji69 H
       have hji69w : (IntKind.i64.wrap ((l1.length : Int) - 1)) = ji69 := (i64_w _).trans hji69
       by_cases c70 : 0 ≤ (ji69)
       ·rw [if_pos c70] at H
        have c70b0 := decide_eq_true c70
        clear c70
        by_cases c71 : (ji69) < (l1.length : Int)
        ·rw [if_pos c71] at H
         have c71b0 := decide_eq_true c71
         clear c71
         by_cases c72 : ((rd_T49 l1 (ji69)).f0) = 7
         ·rw [if_pos c72] at H
          have c72b0 := q1_ c72
          have c72b1 := q2_ c72
          clear c72
          have c73b0 := eq_true (of_decide_eq_true az_ : 0 ≤ (ji69))
          by_cases c74 : (ji69) ≤ (l1.length : Int)
          ·rw [if_pos c74] at H
           have c74b0 := eq_true c74
           have c74b1 := decide_eq_true c74
           clear c74
           obtain ⟨y462, hy462⟩ : ∃ y_ : List (S49), y_ = (l1.take ((ji69) : Int).toNat) := ⟨_, rfl⟩
           replace H : (some y462) = some r := yz_ hy462 H
           have Ny462 := Aside0.mk hy462
           clear hy462
           obtain rfl := Option.some.inj H
           have p461 : 0 ≤ ((ji69) : Int) := of_decide_eq_true az_
           have q461 : (ji69) < (l1.length : Int) := of_decide_eq_true az_
           obtain ⟨ad461, A461_1, c461_1, e461, hx461_0, hx461_1, hl461_1, hi461_1⟩ := at_T49 (Kd.V_reads' HO1.out).2.2 (ji69) p461 q461
           cases e461
           obtain ⟨ce461, hce461, hMe461, hcc461⟩ := Kd.V_get HO1.out z49 (ji69) p461 (by first | exact q461 | exact of_decide_eq_true az_ | (have e_ := (Kd.V_reads' HO1.out).1; omega))
           obtain ⟨ua461_1, uc461_1, rfl, ul461_1, ge461_1⟩ := k49_openF hMe461
           have hv461_1 := hcc461 1 _ rfl
           rw [add_field _ _ 1 (by omega)] at hv461_1
           replace hv461_1 := Option.some.inj (hv461_1.symm.trans hx461_1)
           injection hv461_1 with hva_ hvn_ hvc_
           rw [hva_] at ge461_1
           rw [hvc_] at ul461_1
           have HL461_1 := Aside0.mk (show Kd.V (Kd.int .i64) 3 _ w.heap.size _ _ ((rd_T49 l1 (ji69)).f1) from Kd.V_mk ul461_1 ge461_1)
           clear hva_ hvn_ hvc_ ge461_1 ul461_1
           clear hcc461 hce461
           have HR461_1 := Aside0.mk hi461_1
           have HC461_1 := Aside0.mk hl461_1
           clear hi461_1 hl461_1
           replace p461 := eq_true p461
           replace q461 := eq_true q461
           have q75 : ((ji69) : Int) ≤ ((l1.length : Int) : Int) := of_decide_eq_true az_
           obtain ⟨i075, hi075, _, hsz75, _⟩ := info_parts info49
           have hroom75 : l1.length ≤ c1 := (Kd.V_reads' HO1.out).2.1
           have hC75 : Kd.F k49 _ _ (some ad461) l1.length l1 := (Kd.V_at (base := w.heap.size) HO1.out).2.2
           have hcut75 := cut_to (P := Try.prog) 25 49 .i64 Try.underlying25 hi075 (some ad461) l1.length c1 (ji69) (of_decide_eq_true az_) q75 hroom75
           have hr75 := Kd.F_take (m := ((ji69) : Int).toNat) hC75 (by omega)
           have hy75 : y462.length = ((ji69) : Int).toNat := (by rw [Ny462.out, List.length_take]; omega)
           rw [← Ny462.out] at hr75
           rw [← hy75] at hcut75
           have HO466 := Aside0.mk (show Kd.V k49 49 _ w.heap.size _ (.slice (some ad461) y462.length c1) y462 from Kd.V_mk (by omega) hr75)
           have HC466 := Aside0.mk (show y462.length ≤ c1 from by omega)
           clear hr75 hC75 hroom75 hi075 hsz75
           have KY75 := Aside0.mk hy75
           clear hy75
           replace q75 := eq_true q75
           go_wp2
           go_ret
           exact ⟨_, by first | rfl | (simp [errW_none, errW_some] <;> rfl) | (simp only [← hji69]; first | rfl | (simp [errW_none, errW_some] <;> rfl)) | (simp [*, errW_none, errW_some] <;> rfl), vz_ HO466.out, bz_⟩
          ·rw [if_neg c74] at H
           exact absurd H (by simp)
         ·rw [if_neg c72] at H
          have c72b0 := q3_ c72
          have c72b1 := q4_ c72
          have H' := Aside0.mk H
          clear H
          have p461 : 0 ≤ ((ji69) : Int) := of_decide_eq_true az_
          have q461 : (ji69) < (l1.length : Int) := of_decide_eq_true az_
          obtain ⟨ad461, A461_1, c461_1, e461, hx461_0, hx461_1, hl461_1, hi461_1⟩ := at_T49 (Kd.V_reads' HO1.out).2.2 (ji69) p461 q461
          cases e461
          obtain ⟨ce461, hce461, hMe461, hcc461⟩ := Kd.V_get HO1.out z49 (ji69) p461 (by first | exact q461 | exact of_decide_eq_true az_ | (have e_ := (Kd.V_reads' HO1.out).1; omega))
          obtain ⟨ua461_1, uc461_1, rfl, ul461_1, ge461_1⟩ := k49_openF hMe461
          have hv461_1 := hcc461 1 _ rfl
          rw [add_field _ _ 1 (by omega)] at hv461_1
          replace hv461_1 := Option.some.inj (hv461_1.symm.trans hx461_1)
          injection hv461_1 with hva_ hvn_ hvc_
          rw [hva_] at ge461_1
          rw [hvc_] at ul461_1
          have HL461_1 := Aside0.mk (show Kd.V (Kd.int .i64) 3 _ w.heap.size _ _ ((rd_T49 l1 (ji69)).f1) from Kd.V_mk ul461_1 ge461_1)
          clear hva_ hvn_ hvc_ ge461_1 ul461_1
          clear hcc461 hce461
          have HR461_1 := Aside0.mk hi461_1
          have HC461_1 := Aside0.mk hl461_1
          clear hi461_1 hl461_1
          replace p461 := eq_true p461
          replace q461 := eq_true q461
          go_wp2
          go_meet
          case rel => exact ⟨_, H', ⟨by first | omega | exact Nat.le_refl _⟩, ⟨by (with_reducible repeat (first | apply Kd.V_alloc | apply Kd.V_drewN | apply Kd.V_drew)); exact HO1.out⟩, ⟨by (with_reducible repeat (first | apply Kd.V_alloc | apply Kd.V_drewN | apply Kd.V_drew)); exact HO2.out⟩, ⟨bz_⟩⟩
        ·rw [if_neg c71] at H
         exact absurd H (by simp)
       ·rw [if_neg c70] at H
        exact absurd H (by simp)
      ·rw [if_neg c68] at H
       have c68b0 := q3_ c68
       have c68b1 := q4_ c68
       have H' := Aside0.mk H
       clear H
       go_wp2
       go_meet
       case rel => exact ⟨_, H', ⟨by first | omega | exact Nat.le_refl _⟩, ⟨by (with_reducible repeat (first | apply Kd.V_alloc | apply Kd.V_drewN | apply Kd.V_drew)); exact HO1.out⟩, ⟨by (with_reducible repeat (first | apply Kd.V_alloc | apply Kd.V_drewN | apply Kd.V_drew)); exact HO2.out⟩, ⟨bz_⟩⟩
 case rest =>
  clear HC4
  try clear c1
  try clear c2
  try clear p2
  try clear c3
  try clear c4
  try clear p4
  try clear q4
  try clear hx4
  try clear c5
  try clear c5b0
  try clear c5b1
  try clear c6
  try clear p6
  try clear c7
  try clear q7
  try clear c8
  try clear c9
  try clear c10
  try clear c11
  try clear c13
  try clear c17
  try clear c20
  try clear c25
  try clear c25b0
  try clear c25b1
  try clear c28
  try clear c33
  try clear c35
  try clear c38
  try clear c38b0
  try clear c38b1
  try clear c41
  try clear c46
  try clear p46
  try clear q46
  try clear hx46
  try clear c50
  try clear c53
  try clear c53b0
  try clear c53b1
  try clear c56
  try clear c61
  try clear p64
  try clear c65
  try clear c65b0
  try clear c66
  try clear c66b0
  try clear c67
  try clear c67b0
  try clear c67b1
  try clear c68
  try clear c68b0
  try clear c68b1
  try clear c70
  try clear c70b0
  try clear c71
  try clear c71b0
  try clear c72
  try clear c72b0
  try clear c72b1
  try clear c73
  try clear c73b0
  try clear c74
  try clear c74b0
  try clear c74b1
  try clear q75
  try clear hx460_0
  try clear hx460_1
  try clear hx461_0
  try clear hx461_1
  try clear p2
  try clear p460
  try clear p461
  try clear p6
  try clear q460
  try clear q461
  try clear q75
  obtain ⟨kq, HA, HJ3, HO_1, HO_2, HB⟩ := hcut
  cases kq with
  | zero => exact absurd HA.out (by simp [impl_tidied.j4])
  | succ kj3 =>
   have H := HA.out
   clear HA
   simp only [impl_tidied.j4] at H
   replace H := Option.bind_eq_some_iff.mp H
   obtain ⟨t467, A760, H⟩ := H
   try dsimp only at H
   have A76 := Aside0.mk A760
   clear A760
   by_cases c77 : t467 = 1
   ·rw [if_pos c77] at H
    have c77b0 := q1_ c77
    have c77b1 := q2_ c77
    clear c77
    obtain ⟨y468, hy468⟩ : ∃ y_ : List (List (S49)), y_ = (([l1] : List (List (S49)))) := ⟨_, rfl⟩
    replace H : ((impl_node.f a0 y468).bind fun t471 => (some t471)) = some r := yz_ hy468 H
    have Ny468 := Aside0.mk hy468
    clear hy468
    replace H := Option.bind_eq_some_iff.mp H
    obtain ⟨t471, A780, H⟩ := H
    try dsimp only at H
    have A78 := Aside0.mk A780
    clear A780
    obtain rfl := Option.some.inj H
    go_wp2_with (first | ((with_reducible refine gate_callee (f := 84) rfl ?_); refine goesL_ (some 92) rfl rfl Try.func84 (by kernel_rfl) rfl #[.int .i64 a0] rfl mz_ ?_; (with_reducible refine (impl_partsOf.calls kj3 a0 t467 _ A76.out).mono ?_); rintro e w' ⟨rfl, ⟨nd, rfl⟩⟩; refine ⟨_, rfl, ?_⟩) | ((with_reducible refine gate_dst (N := 96) rfl ?_); refine Kd.N_lit (Kd.slice 49 k49) _ 25 ?hg (N' := 96) ?hd (xs := ([l1] : List (List (S49)))) (inner := [.slice A1 l1.length c1]) (ok := (fun k_ => ((P1_ k_ ∨ P2_ k_) ∨ w.heap.size ≤ k_))) (okp := (fun k_ => ((P1_ k_ ∨ P2_ k_) ∨ w.heap.size ≤ k_))) ?hr ?hp (fun _ hk => hk) (by exact ((show ∀ k_, (_ : World).heap.size ≤ k_ → (fun k_ => ((P1_ k_ ∨ P2_ k_) ∨ w.heap.size ≤ k_)) k_ from fun k_ hk => (.inr (Nat.le_trans (below_size bz_) hk))) _ (Nat.le_refl _))) (Below.refl _ _) (Nat.le_refl _) (by simp) ?_; (case hd => rfl); (case hg => rfl); (case hr => first | (go_simp; done) | (go_simp; rfl)); (case hp => exact (Reps.one (show Kd.FK (Kd.slice 49 k49) _ _ l1 [.slice A1 l1.length c1] from (Kd.FK_slice_mk (Kd.V_reads' (Kd.V_mono (ok' := (fun k_ => ((P1_ k_ ∨ P2_ k_) ∨ w.heap.size ≤ k_))) (HO_1.out) (fun k_ hk => hk))).2.1 (Kd.V_F (Kd.V_mono (ok' := (fun k_ => ((P1_ k_ ∨ P2_ k_) ∨ w.heap.size ≤ k_))) (vz_ HO_1.out) (fun k_ hk => hk))))) (Reps.none _ _))); intro v469 w79 ho80 hb hg_ hnew_; clear hg_ hnew_; (first | rw [← Ny468.out] at ho80 | (simp only [Int.reduceToNat] at ho80; rw [← Ny468.out] at ho80)); have n0_ := Aside0.mk (Kd.V_elder' (vz_ HO_1.out) (kb_ ho80) hb); have n1_ := Aside0.mk (Kd.V_elder' (vz_ HO_2.out) (kb_ ho80) hb); have n2_ := Aside0.mk (Kd.N_lower ho80 (below_size bz_)); have n3_ := Aside0.mk (below_step bz_ hb); clear HO_1; clear HO_2; clear HB; have HO_1 := n0_; have HO_2 := n1_; have HO470 := n2_; have HB := n3_; clear n0_ n1_ n2_ n3_; clear hb ho80; obtain ⟨Ao81, co81, eo81⟩ := Kd.N_slice HO470.out; subst eo81) | ((with_reducible refine gate_callee (f := 90) rfl ?_); refine goesL_ (some 97) rfl rfl Try.func90 (by kernel_rfl) rfl #[.int .i64 a0, .slice Ao81 y468.length co81] rfl mz_ ?_; (with_reducible refine (impl_node.calls a0 (fun k_ => ((P1_ k_ ∨ P2_ k_) ∨ w.heap.size ≤ k_)) _ _ y468 t471 _ ?side1 A78.out).mono ?_); (case side1 => exact Kd.N_V (HO470.out)); rintro e w82 ⟨v472, rfl, ho0, hb⟩; refine ⟨_, rfl, ?_⟩; have n0_ := Aside0.mk (Kd.V_elder' (vz_ HO_1.out) (kb_ ho0) hb); have n1_ := Aside0.mk (Kd.V_elder' (vz_ HO_2.out) (kb_ ho0) hb); have n2_ := Aside0.mk (Kd.N_elder' (nz_ HO470.out) (kb_ ho0) hb); have n3_ := Aside0.mk (Kd.N_lower (Kd.N_mono (ok' := fun k_ => ((P1_ k_ ∨ P2_ k_) ∨ w.heap.size ≤ k_)) ho0 (fun k_ hk_ => Or.elim hk_ (fun hs_ => hs_) (fun hn_ => (.inr (Nat.le_trans (below_size bz_) hn_))))) (below_size bz_)); have n4_ := Aside0.mk (below_step bz_ hb); clear HO_1; clear HO_2; clear HO470; clear HB; have HO_1 := n0_; have HO_2 := n1_; have HO470 := n2_; have HO473 := n3_; have HB := n4_; clear n0_ n1_ n2_ n3_ n4_; (try clear ho0)))
    go_ret
    exact ⟨_, rr_, Kd.N_V (nz_ HO473.out), bz_⟩
   ·rw [if_neg c77] at H
    have c77b0 := q3_ c77
    have c77b1 := q4_ c77
    obtain ⟨y474, hy474⟩ : ∃ y_ : List (List (S49)), y_ = (([l1, l2] : List (List (S49)))) := ⟨_, rfl⟩
    replace H : ((impl_node.f a0 y474).bind fun t477 => (some t477)) = some r := yz_ hy474 H
    have Ny474 := Aside0.mk hy474
    clear hy474
    replace H := Option.bind_eq_some_iff.mp H
    obtain ⟨t477, A830, H⟩ := H
    try dsimp only at H
    have A83 := Aside0.mk A830
    clear A830
    obtain rfl := Option.some.inj H
    go_wp2_with (first | ((with_reducible refine gate_callee (f := 84) rfl ?_); refine goesL_ (some 92) rfl rfl Try.func84 (by kernel_rfl) rfl #[.int .i64 a0] rfl mz_ ?_; (with_reducible refine (impl_partsOf.calls kj3 a0 t467 _ A76.out).mono ?_); rintro e w' ⟨rfl, ⟨nd, rfl⟩⟩; refine ⟨_, rfl, ?_⟩) | ((with_reducible refine gate_dst (N := 101) rfl ?_); refine Kd.N_lit (Kd.slice 49 k49) _ 25 ?hg (N' := 101) ?hd (xs := ([l1, l2] : List (List (S49)))) (inner := [.slice A1 l1.length c1, .slice A2 l2.length c2]) (ok := (fun k_ => ((P1_ k_ ∨ P2_ k_) ∨ w.heap.size ≤ k_))) (okp := (fun k_ => ((P1_ k_ ∨ P2_ k_) ∨ w.heap.size ≤ k_))) ?hr ?hp (fun _ hk => hk) (by exact ((show ∀ k_, (_ : World).heap.size ≤ k_ → (fun k_ => ((P1_ k_ ∨ P2_ k_) ∨ w.heap.size ≤ k_)) k_ from fun k_ hk => (.inr (Nat.le_trans (below_size bz_) hk))) _ (Nat.le_refl _))) (Below.refl _ _) (Nat.le_refl _) (by simp) ?_; (case hd => rfl); (case hg => rfl); (case hr => first | (go_simp; done) | (go_simp; rfl)); (case hp => exact (Reps.one (show Kd.FK (Kd.slice 49 k49) _ _ l1 [.slice A1 l1.length c1] from (Kd.FK_slice_mk (Kd.V_reads' (Kd.V_mono (ok' := (fun k_ => ((P1_ k_ ∨ P2_ k_) ∨ w.heap.size ≤ k_))) (HO_1.out) (fun k_ hk => hk))).2.1 (Kd.V_F (Kd.V_mono (ok' := (fun k_ => ((P1_ k_ ∨ P2_ k_) ∨ w.heap.size ≤ k_))) (vz_ HO_1.out) (fun k_ hk => hk))))) (Reps.one (show Kd.FK (Kd.slice 49 k49) _ _ l2 [.slice A2 l2.length c2] from (Kd.FK_slice_mk (Kd.V_reads' (Kd.V_mono (ok' := (fun k_ => ((P1_ k_ ∨ P2_ k_) ∨ w.heap.size ≤ k_))) (HO_2.out) (fun k_ hk => hk))).2.1 (Kd.V_F (Kd.V_mono (ok' := (fun k_ => ((P1_ k_ ∨ P2_ k_) ∨ w.heap.size ≤ k_))) (vz_ HO_2.out) (fun k_ hk => hk))))) (Reps.none _ _)))); intro v475 w84 ho85 hb hg_ hnew_; clear hg_ hnew_; (first | rw [← Ny474.out] at ho85 | (simp only [Int.reduceToNat] at ho85; rw [← Ny474.out] at ho85)); have n0_ := Aside0.mk (Kd.V_elder' (vz_ HO_1.out) (kb_ ho85) hb); have n1_ := Aside0.mk (Kd.V_elder' (vz_ HO_2.out) (kb_ ho85) hb); have n2_ := Aside0.mk (Kd.N_lower ho85 (below_size bz_)); have n3_ := Aside0.mk (below_step bz_ hb); clear HO_1; clear HO_2; clear HB; have HO_1 := n0_; have HO_2 := n1_; have HO476 := n2_; have HB := n3_; clear n0_ n1_ n2_ n3_; clear hb ho85; obtain ⟨Ao86, co86, eo86⟩ := Kd.N_slice HO476.out; subst eo86) | ((with_reducible refine gate_callee (f := 90) rfl ?_); refine goesL_ (some 102) rfl rfl Try.func90 (by kernel_rfl) rfl #[.int .i64 a0, .slice Ao86 y474.length co86] rfl mz_ ?_; (with_reducible refine (impl_node.calls a0 (fun k_ => ((P1_ k_ ∨ P2_ k_) ∨ w.heap.size ≤ k_)) _ _ y474 t477 _ ?side1 A83.out).mono ?_); (case side1 => exact Kd.N_V (HO476.out)); rintro e w87 ⟨v478, rfl, ho0, hb⟩; refine ⟨_, rfl, ?_⟩; have n0_ := Aside0.mk (Kd.V_elder' (vz_ HO_1.out) (kb_ ho0) hb); have n1_ := Aside0.mk (Kd.V_elder' (vz_ HO_2.out) (kb_ ho0) hb); have n2_ := Aside0.mk (Kd.N_elder' (nz_ HO476.out) (kb_ ho0) hb); have n3_ := Aside0.mk (Kd.N_lower (Kd.N_mono (ok' := fun k_ => ((P1_ k_ ∨ P2_ k_) ∨ w.heap.size ≤ k_)) ho0 (fun k_ hk_ => Or.elim hk_ (fun hs_ => hs_) (fun hn_ => (.inr (Nat.le_trans (below_size bz_) hn_))))) (below_size bz_)); have n4_ := Aside0.mk (below_step bz_ hb); clear HO_1; clear HO_2; clear HO476; clear HB; have HO_1 := n0_; have HO_2 := n1_; have HO476 := n2_; have HO479 := n3_; have HB := n4_; clear n0_ n1_ n2_ n3_ n4_; (try clear ho0)))
    go_ret
    exact ⟨_, rr_, Kd.N_V (nz_ HO479.out), bz_⟩

def impl_tidy.f : Nat → List (S49) → Option ((List (S49)))
 | 0, _ => none
 | k + 1, l0 => (impl_split.f k l0).bind fun bt480 => ((impl_partsOf.f k bt480.1).bind fun t487 => (if t487 = 0 then (some l0) else (if t487 = 1 then ((impl_tidy.f k bt480.2.1).bind fun t488 => ((impl_tidied.f k bt480.1 t488 ([] : List (S49))).bind fun t491 => (some t491))) else ((impl_tidy.f k bt480.2.1).bind fun t494 => ((impl_tidy.f k bt480.2.2).bind fun t497 => ((impl_tidied.f k bt480.1 t494 t497).bind fun t500 => (some t500)))))))
theorem impl_tidy.calls (k : Nat) : ∀ (P0_ : Nat → Prop) (A0 : Option Addr) (c0 : Nat) (l0 : List (S49)) (r : List (S49)) (w : World) (hs0 : Kd.V k49 49 w w.heap.size (fun k_ => P0_ k_) (.slice A0 l0.length c0) l0) (h : impl_tidy.f k l0 = some r),
  Calls Try.prog 70 #[.slice A0 l0.length c0] w fun e w' => ∃ v0_ : Value, e = .returned (v0_) ∧ Kd.V k49 49 w' w.heap.size (fun k_ => (P0_ k_ ∨ w.heap.size ≤ k_)) v0_ r ∧ Below w.heap.size w w' := by
 induction k using Nat.strongRecOn with
 | _ k ih =>
 intro P0_ A0 c0 l0 r w hs0 h
 cases k with
 | zero => exact absurd h (by simp [impl_tidy.f])
 | succ k =>
 simp only [impl_tidy.f] at h
 have HO0 := Aside0.mk (show Kd.V k49 49 w w.heap.size (fun k_ => (P0_ k_ ∨ w.heap.size ≤ k_)) (.slice A0 l0.length c0) l0 from Kd.V_mono hs0 (fun k_ hk => .inl hk))
 have HB := Aside0.mk (Below.refl w.heap.size w)
 have H : ((impl_split.f k l0).bind fun bt480 => ((impl_partsOf.f k bt480.1).bind fun t487 => (if t487 = 0 then (some l0) else (if t487 = 1 then ((impl_tidy.f k bt480.2.1).bind fun t488 => ((impl_tidied.f k bt480.1 t488 ([] : List (S49))).bind fun t491 => (some t491))) else ((impl_tidy.f k bt480.2.1).bind fun t494 => ((impl_tidy.f k bt480.2.2).bind fun t497 => ((impl_tidied.f k bt480.1 t494 t497).bind fun t500 => (some t500)))))))) = some r := h
 clear h
 replace H := Option.bind_eq_some_iff.mp H
 obtain ⟨⟨t480, t481, t484⟩, A20, H⟩ := H
 try dsimp only at H
 have A2 := Aside0.mk A20
 clear A20
 replace H := Option.bind_eq_some_iff.mp H
 obtain ⟨t487, A30, H⟩ := H
 try dsimp only at H
 have A3 := Aside0.mk A30
 clear A30
 by_cases c4 : t487 = 0
 ·rw [if_pos c4] at H
  have c4b0 := q1_ c4
  have c4b1 := q2_ c4
  clear c4
  obtain rfl := Option.some.inj H
  go_enter Try.func70, Try.ntmps70
  go_wp2_with (first | ((with_reducible refine gate_callee (f := 95) rfl ?_); refine goesL_ (some 8) rfl rfl Try.func95 (by kernel_rfl) rfl #[.slice A0 l0.length c0] rfl mz_ ?_; (with_reducible refine (impl_split.calls k (fun k_ => (P0_ k_ ∨ w.heap.size ≤ k_)) _ _ l0 t480 t481 t484 _ ?side1 A2.out).mono ?_); (case side1 => exact HO0.out); rintro e w5 ⟨v482, v485, rfl, ho0, ho1, hb⟩; refine ⟨_, rfl, ?_⟩; have n0_ := Aside0.mk (Kd.V_below (vz_ HO0.out) hb); have n1_ := Aside0.mk (Kd.V_lower (Kd.V_mono (ok' := fun k_ => (P0_ k_ ∨ w.heap.size ≤ k_)) ho0 (fun k_ hk_ => Or.elim hk_ (fun hs_ => hs_) (fun hn_ => (.inr (Nat.le_trans (below_size bz_) hn_))))) (below_size bz_)); have n2_ := Aside0.mk (Kd.V_lower (Kd.V_mono (ok' := fun k_ => (P0_ k_ ∨ w.heap.size ≤ k_)) ho1 (fun k_ hk_ => Or.elim hk_ (fun hs_ => hs_) (fun hn_ => (.inr (Nat.le_trans (below_size bz_) hn_))))) (below_size bz_)); have n3_ := Aside0.mk (below_step bz_ hb); clear HO0; clear HB; have HO0 := n0_; have HO483 := n1_; have HO486 := n2_; have HB := n3_; clear n0_ n1_ n2_ n3_; (try clear ho0); (try clear ho1)) | ((with_reducible refine gate_callee (f := 84) rfl ?_); refine goesL_ (some 13) rfl rfl Try.func84 (by kernel_rfl) rfl #[.int .i64 t480] rfl mz_ ?_; (with_reducible refine (impl_partsOf.calls k t480 t487 _ A3.out).mono ?_); rintro e w' ⟨rfl, ⟨nd, rfl⟩⟩; refine ⟨_, rfl, ?_⟩))
  go_ret
  exact ⟨_, rr_, vz_ HO0.out, bz_⟩
 ·rw [if_neg c4] at H
  have c4b0 := q3_ c4
  have c4b1 := q4_ c4
  by_cases c6 : t487 = 1
  ·rw [if_pos c6] at H
   have c6b0 := q1_ c6
   have c6b1 := q2_ c6
   clear c6
   replace H := Option.bind_eq_some_iff.mp H
   obtain ⟨t488, A70, H⟩ := H
   try dsimp only at H
   have A7 := Aside0.mk A70
   clear A70
   replace H := Option.bind_eq_some_iff.mp H
   obtain ⟨t491, A80, H⟩ := H
   try dsimp only at H
   have A8 := Aside0.mk A80
   clear A80
   obtain rfl := Option.some.inj H
   go_enter Try.func70, Try.ntmps70
   go_wp2_with (first | ((with_reducible refine gate_callee (f := 95) rfl ?_); refine goesL_ (some 8) rfl rfl Try.func95 (by kernel_rfl) rfl #[.slice A0 l0.length c0] rfl mz_ ?_; (with_reducible refine (impl_split.calls k (fun k_ => (P0_ k_ ∨ w.heap.size ≤ k_)) _ _ l0 t480 t481 t484 _ ?side1 A2.out).mono ?_); (case side1 => exact HO0.out); rintro e w9 ⟨v482, v485, rfl, ho0, ho1, hb⟩; refine ⟨_, rfl, ?_⟩; have n0_ := Aside0.mk (Kd.V_below (vz_ HO0.out) hb); have n1_ := Aside0.mk (Kd.V_lower (Kd.V_mono (ok' := fun k_ => (P0_ k_ ∨ w.heap.size ≤ k_)) ho0 (fun k_ hk_ => Or.elim hk_ (fun hs_ => hs_) (fun hn_ => (.inr (Nat.le_trans (below_size bz_) hn_))))) (below_size bz_)); have n2_ := Aside0.mk (Kd.V_lower (Kd.V_mono (ok' := fun k_ => (P0_ k_ ∨ w.heap.size ≤ k_)) ho1 (fun k_ hk_ => Or.elim hk_ (fun hs_ => hs_) (fun hn_ => (.inr (Nat.le_trans (below_size bz_) hn_))))) (below_size bz_)); have n3_ := Aside0.mk (below_step bz_ hb); clear HO0; clear HB; have HO0 := n0_; have HO483 := n1_; have HO486 := n2_; have HB := n3_; clear n0_ n1_ n2_ n3_; (try clear ho0); (try clear ho1)) | ((with_reducible refine gate_callee (f := 84) rfl ?_); refine goesL_ (some 13) rfl rfl Try.func84 (by kernel_rfl) rfl #[.int .i64 t480] rfl mz_ ?_; (with_reducible refine (impl_partsOf.calls k t480 t487 _ A3.out).mono ?_); rintro e w' ⟨rfl, ⟨nd, rfl⟩⟩; refine ⟨_, rfl, ?_⟩; obtain ⟨Ao10, co10, eo10⟩ := Kd.V_slice HO483.out; subst eo10) | ((with_reducible refine gate_callee (f := 70) rfl ?_); refine goesL_ (some 21) rfl rfl Try.func70 (by kernel_rfl) rfl #[.slice Ao10 t481.length co10] rfl mz_ ?_; (with_reducible refine (ih k (by omega) (fun k_ => (P0_ k_ ∨ w.heap.size ≤ k_)) _ _ t481 t488 _ ?side1 A7.out).mono ?_); (case side1 => exact HO483.out); rintro e w11 ⟨v489, rfl, ho0, hb⟩; refine ⟨_, rfl, ?_⟩; have n0_ := Aside0.mk (Kd.V_below (vz_ HO0.out) hb); have n1_ := Aside0.mk (Kd.V_below (vz_ HO483.out) hb); have n2_ := Aside0.mk (Kd.V_below (vz_ HO486.out) hb); have n3_ := Aside0.mk (Kd.V_lower (Kd.V_mono (ok' := fun k_ => (P0_ k_ ∨ w.heap.size ≤ k_)) ho0 (fun k_ hk_ => Or.elim hk_ (fun hs_ => hs_) (fun hn_ => (.inr (Nat.le_trans (below_size bz_) hn_))))) (below_size bz_)); have n4_ := Aside0.mk (below_step bz_ hb); clear HO0; clear HO483; clear HO486; clear HB; have HO0 := n0_; have HO483 := n1_; have HO486 := n2_; have HO490 := n3_; have HB := n4_; clear n0_ n1_ n2_ n3_ n4_; (try clear ho0); obtain ⟨Ao12, co12, eo12⟩ := Kd.V_slice HO490.out; subst eo12) | ((with_reducible refine gate_callee (f := 99) rfl ?_); refine goesL_ (some 22) rfl rfl Try.func99 (by kernel_rfl) rfl #[.int .i64 t480, .slice Ao12 t488.length co12, .slice none 0 0] rfl mz_ ?_; (refine (impl_tidied.calls k t480 (fun k_ => (P0_ k_ ∨ w.heap.size ≤ k_)) _ _ t488 (fun k_ => False) _ _ ([] : List (S49)) t491 _ ?side1 ?side2 A8.out).mono ?_); (case side1 => exact HO490.out); (case side2 => exact Kd.V_nil _ _ _ _ _); rintro e w13 ⟨v492, rfl, ho0, hb⟩; refine ⟨_, rfl, ?_⟩; have n0_ := Aside0.mk (Kd.V_below (vz_ HO0.out) hb); have n1_ := Aside0.mk (Kd.V_below (vz_ HO483.out) hb); have n2_ := Aside0.mk (Kd.V_below (vz_ HO486.out) hb); have n3_ := Aside0.mk (Kd.V_below (vz_ HO490.out) hb); have n4_ := Aside0.mk (Kd.V_lower (Kd.V_mono (ok' := fun k_ => (P0_ k_ ∨ w.heap.size ≤ k_)) ho0 (fun k_ hk_ => Or.elim hk_ (fun hs_ => Or.elim hs_ (fun hs_ => hs_) (fun hs_ => (hs_).elim)) (fun hn_ => (.inr (Nat.le_trans (below_size bz_) hn_))))) (below_size bz_)); have n5_ := Aside0.mk (below_step bz_ hb); clear HO0; clear HO483; clear HO486; clear HO490; clear HB; have HO0 := n0_; have HO483 := n1_; have HO486 := n2_; have HO490 := n3_; have HO493 := n4_; have HB := n5_; clear n0_ n1_ n2_ n3_ n4_ n5_; (try clear ho0)))
   go_ret
   exact ⟨_, rr_, vz_ HO493.out, bz_⟩
  ·rw [if_neg c6] at H
   have c6b0 := q3_ c6
   have c6b1 := q4_ c6
   replace H := Option.bind_eq_some_iff.mp H
   obtain ⟨t494, A140, H⟩ := H
   try dsimp only at H
   have A14 := Aside0.mk A140
   clear A140
   replace H := Option.bind_eq_some_iff.mp H
   obtain ⟨t497, A150, H⟩ := H
   try dsimp only at H
   have A15 := Aside0.mk A150
   clear A150
   replace H := Option.bind_eq_some_iff.mp H
   obtain ⟨t500, A160, H⟩ := H
   try dsimp only at H
   have A16 := Aside0.mk A160
   clear A160
   obtain rfl := Option.some.inj H
   go_enter Try.func70, Try.ntmps70
   go_wp2_with (first | ((with_reducible refine gate_callee (f := 95) rfl ?_); refine goesL_ (some 8) rfl rfl Try.func95 (by kernel_rfl) rfl #[.slice A0 l0.length c0] rfl mz_ ?_; (with_reducible refine (impl_split.calls k (fun k_ => (P0_ k_ ∨ w.heap.size ≤ k_)) _ _ l0 t480 t481 t484 _ ?side1 A2.out).mono ?_); (case side1 => exact HO0.out); rintro e w17 ⟨v482, v485, rfl, ho0, ho1, hb⟩; refine ⟨_, rfl, ?_⟩; have n0_ := Aside0.mk (Kd.V_below (vz_ HO0.out) hb); have n1_ := Aside0.mk (Kd.V_lower (Kd.V_mono (ok' := fun k_ => (P0_ k_ ∨ w.heap.size ≤ k_)) ho0 (fun k_ hk_ => Or.elim hk_ (fun hs_ => hs_) (fun hn_ => (.inr (Nat.le_trans (below_size bz_) hn_))))) (below_size bz_)); have n2_ := Aside0.mk (Kd.V_lower (Kd.V_mono (ok' := fun k_ => (P0_ k_ ∨ w.heap.size ≤ k_)) ho1 (fun k_ hk_ => Or.elim hk_ (fun hs_ => hs_) (fun hn_ => (.inr (Nat.le_trans (below_size bz_) hn_))))) (below_size bz_)); have n3_ := Aside0.mk (below_step bz_ hb); clear HO0; clear HB; have HO0 := n0_; have HO483 := n1_; have HO486 := n2_; have HB := n3_; clear n0_ n1_ n2_ n3_; (try clear ho0); (try clear ho1)) | ((with_reducible refine gate_callee (f := 84) rfl ?_); refine goesL_ (some 13) rfl rfl Try.func84 (by kernel_rfl) rfl #[.int .i64 t480] rfl mz_ ?_; (with_reducible refine (impl_partsOf.calls k t480 t487 _ A3.out).mono ?_); rintro e w' ⟨rfl, ⟨nd, rfl⟩⟩; refine ⟨_, rfl, ?_⟩; obtain ⟨Ao18, co18, eo18⟩ := Kd.V_slice HO483.out; subst eo18) | ((with_reducible refine gate_callee (f := 70) rfl ?_); refine goesL_ (some 25) rfl rfl Try.func70 (by kernel_rfl) rfl #[.slice Ao18 t481.length co18] rfl mz_ ?_; (with_reducible refine (ih k (by omega) (fun k_ => (P0_ k_ ∨ w.heap.size ≤ k_)) _ _ t481 t494 _ ?side1 A14.out).mono ?_); (case side1 => exact HO483.out); rintro e w19 ⟨v495, rfl, ho0, hb⟩; refine ⟨_, rfl, ?_⟩; have n0_ := Aside0.mk (Kd.V_below (vz_ HO0.out) hb); have n1_ := Aside0.mk (Kd.V_below (vz_ HO483.out) hb); have n2_ := Aside0.mk (Kd.V_below (vz_ HO486.out) hb); have n3_ := Aside0.mk (Kd.V_lower (Kd.V_mono (ok' := fun k_ => (P0_ k_ ∨ w.heap.size ≤ k_)) ho0 (fun k_ hk_ => Or.elim hk_ (fun hs_ => hs_) (fun hn_ => (.inr (Nat.le_trans (below_size bz_) hn_))))) (below_size bz_)); have n4_ := Aside0.mk (below_step bz_ hb); clear HO0; clear HO483; clear HO486; clear HB; have HO0 := n0_; have HO483 := n1_; have HO486 := n2_; have HO496 := n3_; have HB := n4_; clear n0_ n1_ n2_ n3_ n4_; (try clear ho0); obtain ⟨Ao20, co20, eo20⟩ := Kd.V_slice HO486.out; subst eo20) | ((with_reducible refine gate_callee (f := 70) rfl ?_); refine goesL_ (some 27) rfl rfl Try.func70 (by kernel_rfl) rfl #[.slice Ao20 t484.length co20] rfl mz_ ?_; (with_reducible refine (ih k (by omega) (fun k_ => (P0_ k_ ∨ w.heap.size ≤ k_)) _ _ t484 t497 _ ?side1 A15.out).mono ?_); (case side1 => exact HO486.out); rintro e w21 ⟨v498, rfl, ho0, hb⟩; refine ⟨_, rfl, ?_⟩; have n0_ := Aside0.mk (Kd.V_below (vz_ HO0.out) hb); have n1_ := Aside0.mk (Kd.V_below (vz_ HO483.out) hb); have n2_ := Aside0.mk (Kd.V_below (vz_ HO486.out) hb); have n3_ := Aside0.mk (Kd.V_below (vz_ HO496.out) hb); have n4_ := Aside0.mk (Kd.V_lower (Kd.V_mono (ok' := fun k_ => (P0_ k_ ∨ w.heap.size ≤ k_)) ho0 (fun k_ hk_ => Or.elim hk_ (fun hs_ => hs_) (fun hn_ => (.inr (Nat.le_trans (below_size bz_) hn_))))) (below_size bz_)); have n5_ := Aside0.mk (below_step bz_ hb); clear HO0; clear HO483; clear HO486; clear HO496; clear HB; have HO0 := n0_; have HO483 := n1_; have HO486 := n2_; have HO496 := n3_; have HO499 := n4_; have HB := n5_; clear n0_ n1_ n2_ n3_ n4_ n5_; (try clear ho0); obtain ⟨Ao22, co22, eo22⟩ := Kd.V_slice HO496.out; subst eo22; obtain ⟨Ao23, co23, eo23⟩ := Kd.V_slice HO499.out; subst eo23) | ((with_reducible refine gate_callee (f := 99) rfl ?_); refine goesL_ (some 28) rfl rfl Try.func99 (by kernel_rfl) rfl #[.int .i64 t480, .slice Ao22 t494.length co22, .slice Ao23 t497.length co23] rfl mz_ ?_; (with_reducible refine (impl_tidied.calls k t480 (fun k_ => (P0_ k_ ∨ w.heap.size ≤ k_)) _ _ t494 (fun k_ => (P0_ k_ ∨ w.heap.size ≤ k_)) _ _ t497 t500 _ ?side1 ?side2 A16.out).mono ?_); (case side1 => exact HO496.out); (case side2 => exact HO499.out); rintro e w24 ⟨v501, rfl, ho0, hb⟩; refine ⟨_, rfl, ?_⟩; have n0_ := Aside0.mk (Kd.V_below (vz_ HO0.out) hb); have n1_ := Aside0.mk (Kd.V_below (vz_ HO483.out) hb); have n2_ := Aside0.mk (Kd.V_below (vz_ HO486.out) hb); have n3_ := Aside0.mk (Kd.V_below (vz_ HO496.out) hb); have n4_ := Aside0.mk (Kd.V_below (vz_ HO499.out) hb); have n5_ := Aside0.mk (Kd.V_lower (Kd.V_mono (ok' := fun k_ => (P0_ k_ ∨ w.heap.size ≤ k_)) ho0 (fun k_ hk_ => Or.elim hk_ (fun hs_ => Or.elim hs_ (fun hs_ => hs_) (fun hs_ => hs_)) (fun hn_ => (.inr (Nat.le_trans (below_size bz_) hn_))))) (below_size bz_)); have n6_ := Aside0.mk (below_step bz_ hb); clear HO0; clear HO483; clear HO486; clear HO496; clear HO499; clear HB; have HO0 := n0_; have HO483 := n1_; have HO486 := n2_; have HO496 := n3_; have HO499 := n4_; have HO502 := n5_; have HB := n6_; clear n0_ n1_ n2_ n3_ n4_ n5_ n6_; (try clear ho0)))
   go_ret
   exact ⟨_, rr_, vz_ HO502.out, bz_⟩

/-- The matcher at block g: what its fields hold now. -/
def MS (W : World) (g : Nat) (p : List S49) (parts : List (List Int)) (l : List Int) (table : List (List (List Bool))) : Prop :=
 ∃ A0 c0 A1 c1 A2 c2 A3 c3, W.heap[g]? = some (.cells #[.slice A0 p.length c0, .slice A1 parts.length c1, .slice A2 l.length c2, .slice A3 table.length c3] 84 (0, 0)) ∧ Kd.C k49 W A0 p.length p ∧ Kd.C (Kd.slice 3 (Kd.int .i64)) W A1 parts.length parts ∧ Kd.C (Kd.int .i64) W A2 l.length l ∧ Kd.C (Kd.slice 81 (Kd.slice 4 Kd.bool)) W A3 table.length table
theorem MS.below {W W' : World} {g : Nat} {p : List S49} {parts : List (List Int)} {l : List Int} {table : List (List (List Bool))} (h : MS W g p parts l table) (hb : Below W.heap.size W W') : MS W' g p parts l table := by
 obtain ⟨A0, c0, A1, c1, A2, c2, A3, c3, h0, h1, h2, h3, h4⟩ := h
 exact ⟨A0, c0, A1, c1, A2, c2, A3, c3, blk_below h0 hb, Kd.C_below h1 hb, Kd.C_below h2 hb, Kd.C_below h3 hb, Kd.C_below h4 hb⟩
theorem at_sl {α : Type} {d : Kd α} {e : Nat} {w : World} {A : Option Addr} {n : Nat} {xs : List (List α)} (h : Kd.C (Kd.slice e d) w A n xs) (i : Nat) (h1 : i < n) : ∃ ad A0 c0, A = some ad ∧ w.cell? (ad.add i) = some (.slice A0 (xs.getD i []).length c0) ∧ (xs.getD i []).length ≤ c0 ∧ d.C w A0 (xs.getD i []).length (xs.getD i []) := by
 obtain ⟨ad, c, e, _, hK, hc0⟩ := Kd.C_get h ([] : List α) (i : Int) (by omega) (by omega)
 have hc : ∀ j u, c[j]? = some u → w.cell? (ad.add (i * 1 + j)) = some u := hc0
 obtain ⟨A0, c0, rfl, l0, g0⟩ := hK
 exact ⟨ad, A0, c0, e, by have hq := hc 0 _ rfl; rwa [Nat.mul_one, Nat.add_zero] at hq, l0, g0⟩
/-- The table's value. -/
def mhv (table : List (List (List Bool))) (a b c : Nat) : Bool := ((table.getD a []).getD b []).getD c false
/-- As far as it goes, the table has these sizes. -/
def Dims (table : List (List (List Bool))) (n : Nat) : Prop := ∀ a, a < table.length → (table.getD a []).length = n + 1 ∧ ∀ b, b ≤ n → ((table.getD a []).getD b []).length = n + 1
theorem mhas.calls (g : Nat) (p : List S49) (parts : List (List Int)) (l : List Int) (table : List (List (List Bool))) (n a b c : Nat) (w : World) (hM : MS w g p parts l table) (hD : Dims table n) (ha : a < table.length) (hb : b ≤ n) (hc : c ≤ n) :
  Calls Try.prog 64 #[.pointer (some ⟨g, 0, none⟩), .int .i64 (a : Int), .int .i64 (b : Int), .int .i64 (c : Int)] w fun e w' => e = .returned (.bool (mhv table a b c)) ∧ w = w' := by
 obtain ⟨A0, c0, A1, c1, A2, c2, A3, c3, HG, H0, H1, H2, H3⟩ := hM
 have hcz3 : w.cell? ⟨g, 3, none⟩ = some (.slice A3 table.length c3) := (blk_cell HG 3).trans rfl
 have hcz0 : w.cell? ⟨g, 0, none⟩ = some (.slice A0 p.length c0) := (blk_cell HG 0).trans rfl
 clear HG H0 H1 H2
 obtain ⟨d1, d2⟩ := hD a ha
 have d3 := d2 b hb
 clear d2
 obtain ⟨ad1, A4, c4, e1, hx1, hl1, hi1⟩ := at_sl H3 a (by omega)
 cases e1
 obtain ⟨ad2, A5, c5, e2, hx2, hl2, hi2⟩ := at_sl hi1 b (by omega)
 cases e2
 obtain ⟨ad3, e3, hx3⟩ := Kd.at_bool hi2 (c : Int) (by omega) (by omega)
 cases e3
 rw [d1] at hx1
 rw [d3] at hx2
 have q1 : decide (a < table.length) = true := decide_eq_true ha
 have q2 : decide (b < n + 1) = true := decide_eq_true (by omega)
 have q3 : decide (c < n + 1) = true := decide_eq_true (by omega)
 have t1 : a < table.length := ha
 have t2 : b < n + 1 := by omega
 have t3 : c < n + 1 := by omega
 clear hi1 hi2 H3 hD d1 d3 ha hb hc hl1 hl2
 rw [show rdOf false ((table.getD a []).getD b []) (c : Int) = mhv table a b c from by unfold mhv rdOf; rw [Int.toNat_natCast]] at hx3
 rw [Int.toNat_natCast] at hx3
 generalize mhv table a b c = r at hx3 ⊢
 go_enter Try.func64, Try.ntmps64
 go_wp2
 go_ret
 exact ⟨rfl, rfl⟩

end Go.Proofs.Ytlmpeaelpchokaa.HFnExactDerivRe
