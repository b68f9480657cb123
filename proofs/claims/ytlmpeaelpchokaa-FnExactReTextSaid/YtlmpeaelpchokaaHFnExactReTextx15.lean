/- Written by wip/pr.py of this session, for the law FnExactReText: Lean functions with the answers of the program's, and the proofs of that; where the kit's print has no word, by hand. -/
import Derived.Test.YtlmpeaelpchokaaHFnExactReTextx0
import Derived.Test.YtlmpeaelpchokaaHFnExactReTextx13
namespace Go.Proofs.Ytlmpeaelpchokaa.HFnExactReText
open Go.RowKit Go.Proofs.YtlmpeaelpchokaaW.PrintWords Go.Proofs.YtlmpeaelpchokaaW.PrintLast Go.Proofs.YtlmpeaelpchokaaW.PrintMore
attribute [local go_sem] max2_int min2_int max_two min_two max_three min_three max_four min_four   -- for this text's walks alone
set_option linter.unusedVariables false
set_option linter.unusedSimpArgs false

/-! ### impl_split: function 95 -/
def impl_split.f (k : Nat) (l0 : List (S49)) : Option (Int × (List (S49)) × (List (S49))) := if 0 ≤ (wrap64 ((l0.length : Int) - 1)) then (if (wrap64 ((l0.length : Int) - 1)) < (l0.length : Int) then ((impl_partsOf.f k ((rd_T49 l0 (wrap64 ((l0.length : Int) - 1))).f0)).bind fun t345 => (if t345 = 0 then (some ((rd_T49 l0 (wrap64 ((l0.length : Int) - 1))).f0, ([] : List (S49)), ([] : List (S49)))) else (if t345 = 1 then (if (wrap64 ((l0.length : Int) - 1)) ≤ (l0.length : Int) then (some ((rd_T49 l0 (wrap64 ((l0.length : Int) - 1))).f0, (l0.take ((wrap64 ((l0.length : Int) - 1)) : Int).toNat), ([] : List (S49)))) else (none)) else ((impl_parts.f k l0).bind fun bt353 => (if (wrap64 ((l0.length : Int) - 1)) < (bt353.1.length : Int) then (if 0 < ((rd_L1 bt353.1 (wrap64 ((l0.length : Int) - 1))).length : Int) then (if 0 ≤ (wrap64 ((rd (rd_L1 bt353.1 (wrap64 ((l0.length : Int) - 1))) 0) + 1)) then (if (wrap64 ((rd (rd_L1 bt353.1 (wrap64 ((l0.length : Int) - 1))) 0) + 1)) ≤ (l0.length : Int) then (if (wrap64 ((rd (rd_L1 bt353.1 (wrap64 ((l0.length : Int) - 1))) 0) + 1)) ≤ (wrap64 ((l0.length : Int) - 1)) then (if (wrap64 ((l0.length : Int) - 1)) ≤ (l0.length : Int) then (some ((rd_T49 l0 (wrap64 ((l0.length : Int) - 1))).f0, (l0.take ((wrap64 ((rd (rd_L1 bt353.1 (wrap64 ((l0.length : Int) - 1))) 0) + 1)) : Int).toNat), ((l0.take ((wrap64 ((l0.length : Int) - 1)) : Int).toNat).drop ((wrap64 ((rd (rd_L1 bt353.1 (wrap64 ((l0.length : Int) - 1))) 0) + 1)) : Int).toNat))) else (none)) else (none)) else (none)) else (none)) else (none)) else (none)))))) else (none)) else (none)
theorem impl_split.mono : ∀ a0 k, LeO (impl_split.f k a0) (impl_split.f (k + 1) a0) := by
  intro a0 k
  unfold impl_split.f
  repeat' first
      | (with_reducible exact impl_parts.mono _ _)
      | (with_reducible exact impl_partsOf.mono _ _)
      | (with_reducible exact LeO.refl _)
      | (with_reducible exact LeO.none _)
      | (with_reducible refine LeO.ite ?_ ?_)
      | (with_reducible refine LeO.bind ?_ (fun _ => ?_))
      | exact impl_parts.mono _ _
      | exact impl_partsOf.mono _ _
      | exact LeO.none _
      | refine LeO.ite ?_ ?_
      | refine LeO.bind ?_ (fun _ => ?_)
set_option maxHeartbeats 8000000 in
set_option maxRecDepth 100000 in
theorem impl_split.calls (k : Nat) (P0_ : Nat → Prop) (A0 : Option Addr) (c0 : Nat) (l0 : List (S49)) (r1 : Int) (r2 : List (S49)) (r3 : List (S49)) (w : World) (hs0 : Kd.V k49 49 w w.heap.size (fun k_ => P0_ k_) (.slice A0 l0.length c0) l0) (h : impl_split.f k l0 = some (r1, r2, r3)) :
    Calls Try.prog 95 #[.slice A0 l0.length c0] w fun e w' => ∃ v1_ v2_ : Value, e = .returned (.tuple #[.int .i64 r1, v1_, v2_]) ∧ Kd.V k49 49 w' w.heap.size (fun k_ => (P0_ k_ ∨ w.heap.size ≤ k_)) v1_ r2 ∧ Kd.V k49 49 w' w.heap.size (fun k_ => (P0_ k_ ∨ w.heap.size ≤ k_)) v2_ r3 ∧ Below w.heap.size w w' := by
  have HO0 := Aside0.mk (show Kd.V k49 49 w w.heap.size (fun k_ => (P0_ k_ ∨ w.heap.size ≤ k_)) (.slice A0 l0.length c0) l0 from Kd.V_mono hs0 (fun k_ hk => .inl hk))
  have HB := Aside0.mk (Below.refl w.heap.size w)
  have H : (if 0 ≤ (wrap64 ((l0.length : Int) - 1)) then (if (wrap64 ((l0.length : Int) - 1)) < (l0.length : Int) then ((impl_partsOf.f k ((rd_T49 l0 (wrap64 ((l0.length : Int) - 1))).f0)).bind fun t345 => (if t345 = 0 then (some ((rd_T49 l0 (wrap64 ((l0.length : Int) - 1))).f0, ([] : List (S49)), ([] : List (S49)))) else (if t345 = 1 then (if (wrap64 ((l0.length : Int) - 1)) ≤ (l0.length : Int) then (some ((rd_T49 l0 (wrap64 ((l0.length : Int) - 1))).f0, (l0.take ((wrap64 ((l0.length : Int) - 1)) : Int).toNat), ([] : List (S49)))) else (none)) else ((impl_parts.f k l0).bind fun bt353 => (if (wrap64 ((l0.length : Int) - 1)) < (bt353.1.length : Int) then (if 0 < ((rd_L1 bt353.1 (wrap64 ((l0.length : Int) - 1))).length : Int) then (if 0 ≤ (wrap64 ((rd (rd_L1 bt353.1 (wrap64 ((l0.length : Int) - 1))) 0) + 1)) then (if (wrap64 ((rd (rd_L1 bt353.1 (wrap64 ((l0.length : Int) - 1))) 0) + 1)) ≤ (l0.length : Int) then (if (wrap64 ((rd (rd_L1 bt353.1 (wrap64 ((l0.length : Int) - 1))) 0) + 1)) ≤ (wrap64 ((l0.length : Int) - 1)) then (if (wrap64 ((l0.length : Int) - 1)) ≤ (l0.length : Int) then (some ((rd_T49 l0 (wrap64 ((l0.length : Int) - 1))).f0, (l0.take ((wrap64 ((rd (rd_L1 bt353.1 (wrap64 ((l0.length : Int) - 1))) 0) + 1)) : Int).toNat), ((l0.take ((wrap64 ((l0.length : Int) - 1)) : Int).toNat).drop ((wrap64 ((rd (rd_L1 bt353.1 (wrap64 ((l0.length : Int) - 1))) 0) + 1)) : Int).toNat))) else (none)) else (none)) else (none)) else (none)) else (none)) else (none)))))) else (none)) else (none)) = some (r1, r2, r3) := h
  clear h
  obtain ⟨ji2, hji2⟩ : ∃ j_ : Int, (wrap64 ((l0.length : Int) - 1)) = j_ := ⟨_, rfl⟩
  replace H : (if 0 ≤ (ji2) then (if (ji2) < (l0.length : Int) then ((impl_partsOf.f k ((rd_T49 l0 (ji2)).f0)).bind fun t345 => (if t345 = 0 then (some ((rd_T49 l0 (ji2)).f0, ([] : List (S49)), ([] : List (S49)))) else (if t345 = 1 then (if (ji2) ≤ (l0.length : Int) then (some ((rd_T49 l0 (ji2)).f0, (l0.take ((ji2) : Int).toNat), ([] : List (S49)))) else (none)) else ((impl_parts.f k l0).bind fun bt353 => (if (ji2) < (bt353.1.length : Int) then (if 0 < ((rd_L1 bt353.1 (ji2)).length : Int) then (if 0 ≤ (wrap64 ((rd (rd_L1 bt353.1 (ji2)) 0) + 1)) then (if (wrap64 ((rd (rd_L1 bt353.1 (ji2)) 0) + 1)) ≤ (l0.length : Int) then (if (wrap64 ((rd (rd_L1 bt353.1 (ji2)) 0) + 1)) ≤ (ji2) then (if (ji2) ≤ (l0.length : Int) then (some ((rd_T49 l0 (ji2)).f0, (l0.take ((wrap64 ((rd (rd_L1 bt353.1 (ji2)) 0) + 1)) : Int).toNat), ((l0.take ((ji2) : Int).toNat).drop ((wrap64 ((rd (rd_L1 bt353.1 (ji2)) 0) + 1)) : Int).toNat))) else (none)) else (none)) else (none)) else (none)) else (none)) else (none)))))) else (none)) else (none)) = some (r1, r2, r3) := by first | (rw [hji2] at H; exact H) | (simp only [hji2] at H ⊢; exact H)
  have hji2w : (IntKind.i64.wrap ((l0.length : Int) - 1)) = ji2 := (i64_w _).trans hji2
  by_cases c3 : 0 ≤ (ji2)
  · rw [if_pos c3] at H
    have c3b0 : decide (0 ≤ (ji2)) = true := decide_eq_true c3
    clear c3
    by_cases c4 : (ji2) < (l0.length : Int)
    · rw [if_pos c4] at H
      have c4b0 : decide ((ji2) < (l0.length : Int)) = true := decide_eq_true c4
      clear c4
      replace H := Option.bind_eq_some_iff.mp H
      obtain ⟨t345, A50, H⟩ := H
      replace H : (if t345 = 0 then (some ((rd_T49 l0 (ji2)).f0, ([] : List (S49)), ([] : List (S49)))) else (if t345 = 1 then (if (ji2) ≤ (l0.length : Int) then (some ((rd_T49 l0 (ji2)).f0, (l0.take ((ji2) : Int).toNat), ([] : List (S49)))) else (none)) else ((impl_parts.f k l0).bind fun bt353 => (if (ji2) < (bt353.1.length : Int) then (if 0 < ((rd_L1 bt353.1 (ji2)).length : Int) then (if 0 ≤ (wrap64 ((rd (rd_L1 bt353.1 (ji2)) 0) + 1)) then (if (wrap64 ((rd (rd_L1 bt353.1 (ji2)) 0) + 1)) ≤ (l0.length : Int) then (if (wrap64 ((rd (rd_L1 bt353.1 (ji2)) 0) + 1)) ≤ (ji2) then (if (ji2) ≤ (l0.length : Int) then (some ((rd_T49 l0 (ji2)).f0, (l0.take ((wrap64 ((rd (rd_L1 bt353.1 (ji2)) 0) + 1)) : Int).toNat), ((l0.take ((ji2) : Int).toNat).drop ((wrap64 ((rd (rd_L1 bt353.1 (ji2)) 0) + 1)) : Int).toNat))) else (none)) else (none)) else (none)) else (none)) else (none)) else (none))))) = some (r1, r2, r3) := H
      have A5 := Aside0.mk A50
      clear A50
      by_cases c6 : t345 = 0
      · rw [if_pos c6] at H
        have c6b0 : (t345 == 0) = true := beq_iff_eq.mpr c6
        have c6b1 : (t345 != 0) = false := bne_eq_false_iff_eq.mpr c6
        clear c6
        simp only [Option.some.injEq, Prod.mk.injEq] at H
        obtain ⟨rfl, rfl, rfl⟩ := H
        have p344 : 0 ≤ ((ji2) : Int) := of_decide_eq_true (by first | (with_reducible assumption) | assumption)
        have q344 : (ji2) < (l0.length : Int) := of_decide_eq_true (by first | (with_reducible assumption) | assumption)
        obtain ⟨ad344, A344_1, c344_1, e344, hx344_0, hx344_1, hl344_1, hi344_1⟩ := at_T49 (Kd.V_reads' HO0.out).2.2 (ji2) p344 q344
        cases e344
        obtain ⟨ce344, hce344, hMe344, hcc344⟩ := Kd.V_get HO0.out z49 (ji2) p344 (by first | exact q344 | exact of_decide_eq_true (by first | (with_reducible assumption) | assumption) | (have e_ := (Kd.V_reads' HO0.out).1; omega))
        obtain ⟨ua344_1, uc344_1, rfl, ul344_1, ge344_1⟩ := k49_openF hMe344
        have hv344_1 := hcc344 1 _ rfl
        rw [add_field _ _ 1 (by omega)] at hv344_1
        replace hv344_1 := Option.some.inj (hv344_1.symm.trans hx344_1)
        injection hv344_1 with hva_ hvn_ hvc_
        rw [hva_] at ge344_1
        rw [hvc_] at ul344_1
        have HL344_1 := Aside0.mk (show Kd.V (Kd.int .i64) 3 _ w.heap.size _ _ ((rd_T49 l0 (ji2)).f1) from Kd.V_mk ul344_1 ge344_1)
        clear hva_ hvn_ hvc_ ge344_1 ul344_1
        clear hcc344 hce344
        have HR344_1 := Aside0.mk hi344_1
        have HC344_1 := Aside0.mk hl344_1
        clear hi344_1 hl344_1
        replace p344 := eq_true p344
        replace q344 := eq_true q344
        go_enter Try.func95, Try.ntmps95
        go_wp2_with (first | (go_at_call 84; (with_reducible refine (impl_partsOf.calls k ((rd_T49 l0 (ji2)).f0) t345 _ A5.out).mono ?_); rintro e w' ⟨rfl, ⟨nd, rfl⟩⟩; (try first | exact ⟨rfl, _, World.drewN_drewN _ _ _⟩ | exact ⟨rfl, _, Eq.trans (World.drewN_drewN _ _ _) (congrArg (World.drewN _) (Nat.add_assoc _ _ _))⟩); have p346 : 0 ≤ ((ji2) : Int) := of_decide_eq_true (by first | (with_reducible assumption) | assumption); have q346 : (ji2) < (l0.length : Int) := of_decide_eq_true (by first | (with_reducible assumption) | assumption); obtain ⟨ad346, A346_1, c346_1, e346, hx346_0, hx346_1, hl346_1, hi346_1⟩ := at_T49 (Kd.V_reads' HO0.out).2.2 (ji2) p346 q346; obtain rfl : ad344 = ad346 := (by injection e346); obtain ⟨ce346, hce346, hMe346, hcc346⟩ := Kd.V_get HO0.out z49 (ji2) p346 (by first | exact q346 | exact of_decide_eq_true (by first | (with_reducible assumption) | assumption) | (have e_ := (Kd.V_reads' HO0.out).1; omega)); obtain ⟨ua346_1, uc346_1, rfl, ul346_1, ge346_1⟩ := k49_openF hMe346; have hv346_1 := hcc346 1 _ rfl; rw [add_field _ _ 1 (by omega)] at hv346_1; replace hv346_1 := Option.some.inj (hv346_1.symm.trans hx346_1); injection hv346_1 with hva_ hvn_ hvc_; rw [hva_] at ge346_1; rw [hvc_] at ul346_1; have HL346_1 := Aside0.mk (show Kd.V (Kd.int .i64) 3 _ w.heap.size _ _ ((rd_T49 l0 (ji2)).f1) from Kd.V_mk ul346_1 ge346_1); clear hva_ hvn_ hvc_ ge346_1 ul346_1; clear hcc346 hce346; have HR346_1 := Aside0.mk hi346_1; have HC346_1 := Aside0.mk hl346_1; clear hi346_1 hl346_1; replace p346 := eq_true p346; replace q346 := eq_true q346; have ea_ := Option.some.inj (hx344_1.symm.trans hx346_1); injection ea_ with ea_ en_ ec_; subst ea_; subst ec_; clear en_))
        repeat (go_quiet (first | (go_at_call 84; (with_reducible refine (impl_partsOf.calls k ((rd_T49 l0 (ji2)).f0) t345 _ A5.out).mono ?_); rintro e w' ⟨rfl, ⟨nd, rfl⟩⟩; (try first | exact ⟨rfl, _, World.drewN_drewN _ _ _⟩ | exact ⟨rfl, _, Eq.trans (World.drewN_drewN _ _ _) (congrArg (World.drewN _) (Nat.add_assoc _ _ _))⟩); have p346 : 0 ≤ ((ji2) : Int) := of_decide_eq_true (by first | (with_reducible assumption) | assumption); have q346 : (ji2) < (l0.length : Int) := of_decide_eq_true (by first | (with_reducible assumption) | assumption); obtain ⟨ad346, A346_1, c346_1, e346, hx346_0, hx346_1, hl346_1, hi346_1⟩ := at_T49 (Kd.V_reads' HO0.out).2.2 (ji2) p346 q346; obtain rfl : ad344 = ad346 := (by injection e346); obtain ⟨ce346, hce346, hMe346, hcc346⟩ := Kd.V_get HO0.out z49 (ji2) p346 (by first | exact q346 | exact of_decide_eq_true (by first | (with_reducible assumption) | assumption) | (have e_ := (Kd.V_reads' HO0.out).1; omega)); obtain ⟨ua346_1, uc346_1, rfl, ul346_1, ge346_1⟩ := k49_openF hMe346; have hv346_1 := hcc346 1 _ rfl; rw [add_field _ _ 1 (by omega)] at hv346_1; replace hv346_1 := Option.some.inj (hv346_1.symm.trans hx346_1); injection hv346_1 with hva_ hvn_ hvc_; rw [hva_] at ge346_1; rw [hvc_] at ul346_1; have HL346_1 := Aside0.mk (show Kd.V (Kd.int .i64) 3 _ w.heap.size _ _ ((rd_T49 l0 (ji2)).f1) from Kd.V_mk ul346_1 ge346_1); clear hva_ hvn_ hvc_ ge346_1 ul346_1; clear hcc346 hce346; have HR346_1 := Aside0.mk hi346_1; have HC346_1 := Aside0.mk hl346_1; clear hi346_1 hl346_1; replace p346 := eq_true p346; replace q346 := eq_true q346; have ea_ := Option.some.inj (hx344_1.symm.trans hx346_1); injection ea_ with ea_ en_ ec_; subst ea_; subst ec_; clear en_)); try go_wp2_with (first | (go_at_call 84; (with_reducible refine (impl_partsOf.calls k ((rd_T49 l0 (ji2)).f0) t345 _ A5.out).mono ?_); rintro e w' ⟨rfl, ⟨nd, rfl⟩⟩; (try first | exact ⟨rfl, _, World.drewN_drewN _ _ _⟩ | exact ⟨rfl, _, Eq.trans (World.drewN_drewN _ _ _) (congrArg (World.drewN _) (Nat.add_assoc _ _ _))⟩); have p346 : 0 ≤ ((ji2) : Int) := of_decide_eq_true (by first | (with_reducible assumption) | assumption); have q346 : (ji2) < (l0.length : Int) := of_decide_eq_true (by first | (with_reducible assumption) | assumption); obtain ⟨ad346, A346_1, c346_1, e346, hx346_0, hx346_1, hl346_1, hi346_1⟩ := at_T49 (Kd.V_reads' HO0.out).2.2 (ji2) p346 q346; obtain rfl : ad344 = ad346 := (by injection e346); obtain ⟨ce346, hce346, hMe346, hcc346⟩ := Kd.V_get HO0.out z49 (ji2) p346 (by first | exact q346 | exact of_decide_eq_true (by first | (with_reducible assumption) | assumption) | (have e_ := (Kd.V_reads' HO0.out).1; omega)); obtain ⟨ua346_1, uc346_1, rfl, ul346_1, ge346_1⟩ := k49_openF hMe346; have hv346_1 := hcc346 1 _ rfl; rw [add_field _ _ 1 (by omega)] at hv346_1; replace hv346_1 := Option.some.inj (hv346_1.symm.trans hx346_1); injection hv346_1 with hva_ hvn_ hvc_; rw [hva_] at ge346_1; rw [hvc_] at ul346_1; have HL346_1 := Aside0.mk (show Kd.V (Kd.int .i64) 3 _ w.heap.size _ _ ((rd_T49 l0 (ji2)).f1) from Kd.V_mk ul346_1 ge346_1); clear hva_ hvn_ hvc_ ge346_1 ul346_1; clear hcc346 hce346; have HR346_1 := Aside0.mk hi346_1; have HC346_1 := Aside0.mk hl346_1; clear hi346_1 hl346_1; replace p346 := eq_true p346; replace q346 := eq_true q346; have ea_ := Option.some.inj (hx344_1.symm.trans hx346_1); injection ea_ with ea_ en_ ec_; subst ea_; subst ec_; clear en_)))
        go_ret3
        exact ⟨_, _, by first | rfl | (simp [errW_none, errW_some] <;> rfl) | (simp only [← hji2]; first | rfl | (simp [errW_none, errW_some] <;> rfl)) | (simp [*, errW_none, errW_some] <;> rfl), Kd.V_nil _ _ _ _ _, Kd.V_nil _ _ _ _ _, by repeat (first | (with_reducible first | exact HB.out | apply below_alloc | apply pw_below_drewN | apply below_drew1) | exact HB.out | exact HBq_.out | exact Below.refl _ _)⟩
      · rw [if_neg c6] at H
        have c6b0 : (t345 == 0) = false := beq_eq_false_iff_ne.mpr c6
        have c6b1 : (t345 != 0) = true := bne_iff_ne.mpr c6
        by_cases c7 : t345 = 1
        · rw [if_pos c7] at H
          have c7b0 : (t345 == 1) = true := beq_iff_eq.mpr c7
          have c7b1 : (t345 != 1) = false := bne_eq_false_iff_eq.mpr c7
          clear c7
          have c8b0 := eq_true (of_decide_eq_true (by first | (with_reducible assumption) | assumption) : 0 ≤ (ji2))
          by_cases c9 : (ji2) ≤ (l0.length : Int)
          · rw [if_pos c9] at H
            have c9b0 := eq_true c9
            have c9b1 : decide ((ji2) ≤ (l0.length : Int)) = true := decide_eq_true c9
            clear c9
            obtain ⟨y348, hy348⟩ : ∃ y_ : List (S49), y_ = (l0.take ((ji2) : Int).toNat) := ⟨_, rfl⟩
            replace H : (some ((rd_T49 l0 (ji2)).f0, y348, ([] : List (S49)))) = some (r1, r2, r3) := by first | (rw [hy348]; with_reducible exact H) | (have H2_ := (Option.bind_some _ _).symm.trans H; rw [hy348]; with_reducible exact H2_) | (have H2_ := (Option.bind_some _ _).symm.trans H; with_reducible exact H2_) | with_reducible exact H | (rw [hy348]; exact H) | exact H
            have Ny348 := Aside0.mk hy348
            clear hy348
            simp only [Option.some.injEq, Prod.mk.injEq] at H
            obtain ⟨rfl, rfl, rfl⟩ := H
            have p344 : 0 ≤ ((ji2) : Int) := of_decide_eq_true (by first | (with_reducible assumption) | assumption)
            have q344 : (ji2) < (l0.length : Int) := of_decide_eq_true (by first | (with_reducible assumption) | assumption)
            obtain ⟨ad344, A344_1, c344_1, e344, hx344_0, hx344_1, hl344_1, hi344_1⟩ := at_T49 (Kd.V_reads' HO0.out).2.2 (ji2) p344 q344
            cases e344
            obtain ⟨ce344, hce344, hMe344, hcc344⟩ := Kd.V_get HO0.out z49 (ji2) p344 (by first | exact q344 | exact of_decide_eq_true (by first | (with_reducible assumption) | assumption) | (have e_ := (Kd.V_reads' HO0.out).1; omega))
            obtain ⟨ua344_1, uc344_1, rfl, ul344_1, ge344_1⟩ := k49_openF hMe344
            have hv344_1 := hcc344 1 _ rfl
            rw [add_field _ _ 1 (by omega)] at hv344_1
            replace hv344_1 := Option.some.inj (hv344_1.symm.trans hx344_1)
            injection hv344_1 with hva_ hvn_ hvc_
            rw [hva_] at ge344_1
            rw [hvc_] at ul344_1
            have HL344_1 := Aside0.mk (show Kd.V (Kd.int .i64) 3 _ w.heap.size _ _ ((rd_T49 l0 (ji2)).f1) from Kd.V_mk ul344_1 ge344_1)
            clear hva_ hvn_ hvc_ ge344_1 ul344_1
            clear hcc344 hce344
            have HR344_1 := Aside0.mk hi344_1
            have HC344_1 := Aside0.mk hl344_1
            clear hi344_1 hl344_1
            replace p344 := eq_true p344
            replace q344 := eq_true q344
            go_enter Try.func95, Try.ntmps95
            go_wp2_with (first | (go_at_call 84; (with_reducible refine (impl_partsOf.calls k ((rd_T49 l0 (ji2)).f0) t345 _ A5.out).mono ?_); rintro e w' ⟨rfl, ⟨nd, rfl⟩⟩; (try first | exact ⟨rfl, _, World.drewN_drewN _ _ _⟩ | exact ⟨rfl, _, Eq.trans (World.drewN_drewN _ _ _) (congrArg (World.drewN _) (Nat.add_assoc _ _ _))⟩); have p347 : 0 ≤ ((ji2) : Int) := of_decide_eq_true (by first | (with_reducible assumption) | assumption); have q347 : (ji2) < (l0.length : Int) := of_decide_eq_true (by first | (with_reducible assumption) | assumption); obtain ⟨ad347, A347_1, c347_1, e347, hx347_0, hx347_1, hl347_1, hi347_1⟩ := at_T49 (Kd.V_reads' HO0.out).2.2 (ji2) p347 q347; obtain rfl : ad344 = ad347 := (by injection e347); obtain ⟨ce347, hce347, hMe347, hcc347⟩ := Kd.V_get HO0.out z49 (ji2) p347 (by first | exact q347 | exact of_decide_eq_true (by first | (with_reducible assumption) | assumption) | (have e_ := (Kd.V_reads' HO0.out).1; omega)); obtain ⟨ua347_1, uc347_1, rfl, ul347_1, ge347_1⟩ := k49_openF hMe347; have hv347_1 := hcc347 1 _ rfl; rw [add_field _ _ 1 (by omega)] at hv347_1; replace hv347_1 := Option.some.inj (hv347_1.symm.trans hx347_1); injection hv347_1 with hva_ hvn_ hvc_; rw [hva_] at ge347_1; rw [hvc_] at ul347_1; have HL347_1 := Aside0.mk (show Kd.V (Kd.int .i64) 3 _ w.heap.size _ _ ((rd_T49 l0 (ji2)).f1) from Kd.V_mk ul347_1 ge347_1); clear hva_ hvn_ hvc_ ge347_1 ul347_1; clear hcc347 hce347; have HR347_1 := Aside0.mk hi347_1; have HC347_1 := Aside0.mk hl347_1; clear hi347_1 hl347_1; replace p347 := eq_true p347; replace q347 := eq_true q347; have ea_ := Option.some.inj (hx344_1.symm.trans hx347_1); injection ea_ with ea_ en_ ec_; subst ea_; subst ec_; clear en_; have q10 : ((ji2) : Int) ≤ ((l0.length : Int) : Int) := of_decide_eq_true (by first | (with_reducible assumption) | assumption); obtain ⟨i010, hi010, _, hsz10, _⟩ := info_parts info49; have hroom10 : l0.length ≤ c0 := (Kd.V_reads' HO0.out).2.1; have hC10 : Kd.F k49 _ _ (some ad344) l0.length l0 := (Kd.V_at (base := w.heap.size) HO0.out).2.2; have hcut10 := cut_to (P := Try.prog) 25 49 .i64 Try.underlying25 hi010 (some ad344) l0.length c0 (ji2) (of_decide_eq_true (by first | (with_reducible assumption) | assumption)) q10 hroom10; have hr10 := Kd.F_take (m := ((ji2) : Int).toNat) hC10 (by omega); have hy10 : y348.length = ((ji2) : Int).toNat := (by rw [Ny348.out, List.length_take]; omega); rw [← Ny348.out] at hr10; rw [← hy10] at hcut10; have HO352 := Aside0.mk (show Kd.V k49 49 _ w.heap.size _ (.slice (some ad344) y348.length c0) y348 from Kd.V_mk (by omega) hr10); have HC352 := Aside0.mk (show y348.length ≤ c0 from by omega); clear hr10 hC10 hroom10 hi010 hsz10; have KY10 := Aside0.mk hy10; clear hy10; replace q10 := eq_true q10))
            repeat (go_quiet (first | (go_at_call 84; (with_reducible refine (impl_partsOf.calls k ((rd_T49 l0 (ji2)).f0) t345 _ A5.out).mono ?_); rintro e w' ⟨rfl, ⟨nd, rfl⟩⟩; (try first | exact ⟨rfl, _, World.drewN_drewN _ _ _⟩ | exact ⟨rfl, _, Eq.trans (World.drewN_drewN _ _ _) (congrArg (World.drewN _) (Nat.add_assoc _ _ _))⟩); have p347 : 0 ≤ ((ji2) : Int) := of_decide_eq_true (by first | (with_reducible assumption) | assumption); have q347 : (ji2) < (l0.length : Int) := of_decide_eq_true (by first | (with_reducible assumption) | assumption); obtain ⟨ad347, A347_1, c347_1, e347, hx347_0, hx347_1, hl347_1, hi347_1⟩ := at_T49 (Kd.V_reads' HO0.out).2.2 (ji2) p347 q347; obtain rfl : ad344 = ad347 := (by injection e347); obtain ⟨ce347, hce347, hMe347, hcc347⟩ := Kd.V_get HO0.out z49 (ji2) p347 (by first | exact q347 | exact of_decide_eq_true (by first | (with_reducible assumption) | assumption) | (have e_ := (Kd.V_reads' HO0.out).1; omega)); obtain ⟨ua347_1, uc347_1, rfl, ul347_1, ge347_1⟩ := k49_openF hMe347; have hv347_1 := hcc347 1 _ rfl; rw [add_field _ _ 1 (by omega)] at hv347_1; replace hv347_1 := Option.some.inj (hv347_1.symm.trans hx347_1); injection hv347_1 with hva_ hvn_ hvc_; rw [hva_] at ge347_1; rw [hvc_] at ul347_1; have HL347_1 := Aside0.mk (show Kd.V (Kd.int .i64) 3 _ w.heap.size _ _ ((rd_T49 l0 (ji2)).f1) from Kd.V_mk ul347_1 ge347_1); clear hva_ hvn_ hvc_ ge347_1 ul347_1; clear hcc347 hce347; have HR347_1 := Aside0.mk hi347_1; have HC347_1 := Aside0.mk hl347_1; clear hi347_1 hl347_1; replace p347 := eq_true p347; replace q347 := eq_true q347; have ea_ := Option.some.inj (hx344_1.symm.trans hx347_1); injection ea_ with ea_ en_ ec_; subst ea_; subst ec_; clear en_; have q10 : ((ji2) : Int) ≤ ((l0.length : Int) : Int) := of_decide_eq_true (by first | (with_reducible assumption) | assumption); obtain ⟨i010, hi010, _, hsz10, _⟩ := info_parts info49; have hroom10 : l0.length ≤ c0 := (Kd.V_reads' HO0.out).2.1; have hC10 : Kd.F k49 _ _ (some ad344) l0.length l0 := (Kd.V_at (base := w.heap.size) HO0.out).2.2; have hcut10 := cut_to (P := Try.prog) 25 49 .i64 Try.underlying25 hi010 (some ad344) l0.length c0 (ji2) (of_decide_eq_true (by first | (with_reducible assumption) | assumption)) q10 hroom10; have hr10 := Kd.F_take (m := ((ji2) : Int).toNat) hC10 (by omega); have hy10 : y348.length = ((ji2) : Int).toNat := (by rw [Ny348.out, List.length_take]; omega); rw [← Ny348.out] at hr10; rw [← hy10] at hcut10; have HO352 := Aside0.mk (show Kd.V k49 49 _ w.heap.size _ (.slice (some ad344) y348.length c0) y348 from Kd.V_mk (by omega) hr10); have HC352 := Aside0.mk (show y348.length ≤ c0 from by omega); clear hr10 hC10 hroom10 hi010 hsz10; have KY10 := Aside0.mk hy10; clear hy10; replace q10 := eq_true q10)); try go_wp2_with (first | (go_at_call 84; (with_reducible refine (impl_partsOf.calls k ((rd_T49 l0 (ji2)).f0) t345 _ A5.out).mono ?_); rintro e w' ⟨rfl, ⟨nd, rfl⟩⟩; (try first | exact ⟨rfl, _, World.drewN_drewN _ _ _⟩ | exact ⟨rfl, _, Eq.trans (World.drewN_drewN _ _ _) (congrArg (World.drewN _) (Nat.add_assoc _ _ _))⟩); have p347 : 0 ≤ ((ji2) : Int) := of_decide_eq_true (by first | (with_reducible assumption) | assumption); have q347 : (ji2) < (l0.length : Int) := of_decide_eq_true (by first | (with_reducible assumption) | assumption); obtain ⟨ad347, A347_1, c347_1, e347, hx347_0, hx347_1, hl347_1, hi347_1⟩ := at_T49 (Kd.V_reads' HO0.out).2.2 (ji2) p347 q347; obtain rfl : ad344 = ad347 := (by injection e347); obtain ⟨ce347, hce347, hMe347, hcc347⟩ := Kd.V_get HO0.out z49 (ji2) p347 (by first | exact q347 | exact of_decide_eq_true (by first | (with_reducible assumption) | assumption) | (have e_ := (Kd.V_reads' HO0.out).1; omega)); obtain ⟨ua347_1, uc347_1, rfl, ul347_1, ge347_1⟩ := k49_openF hMe347; have hv347_1 := hcc347 1 _ rfl; rw [add_field _ _ 1 (by omega)] at hv347_1; replace hv347_1 := Option.some.inj (hv347_1.symm.trans hx347_1); injection hv347_1 with hva_ hvn_ hvc_; rw [hva_] at ge347_1; rw [hvc_] at ul347_1; have HL347_1 := Aside0.mk (show Kd.V (Kd.int .i64) 3 _ w.heap.size _ _ ((rd_T49 l0 (ji2)).f1) from Kd.V_mk ul347_1 ge347_1); clear hva_ hvn_ hvc_ ge347_1 ul347_1; clear hcc347 hce347; have HR347_1 := Aside0.mk hi347_1; have HC347_1 := Aside0.mk hl347_1; clear hi347_1 hl347_1; replace p347 := eq_true p347; replace q347 := eq_true q347; have ea_ := Option.some.inj (hx344_1.symm.trans hx347_1); injection ea_ with ea_ en_ ec_; subst ea_; subst ec_; clear en_; have q10 : ((ji2) : Int) ≤ ((l0.length : Int) : Int) := of_decide_eq_true (by first | (with_reducible assumption) | assumption); obtain ⟨i010, hi010, _, hsz10, _⟩ := info_parts info49; have hroom10 : l0.length ≤ c0 := (Kd.V_reads' HO0.out).2.1; have hC10 : Kd.F k49 _ _ (some ad344) l0.length l0 := (Kd.V_at (base := w.heap.size) HO0.out).2.2; have hcut10 := cut_to (P := Try.prog) 25 49 .i64 Try.underlying25 hi010 (some ad344) l0.length c0 (ji2) (of_decide_eq_true (by first | (with_reducible assumption) | assumption)) q10 hroom10; have hr10 := Kd.F_take (m := ((ji2) : Int).toNat) hC10 (by omega); have hy10 : y348.length = ((ji2) : Int).toNat := (by rw [Ny348.out, List.length_take]; omega); rw [← Ny348.out] at hr10; rw [← hy10] at hcut10; have HO352 := Aside0.mk (show Kd.V k49 49 _ w.heap.size _ (.slice (some ad344) y348.length c0) y348 from Kd.V_mk (by omega) hr10); have HC352 := Aside0.mk (show y348.length ≤ c0 from by omega); clear hr10 hC10 hroom10 hi010 hsz10; have KY10 := Aside0.mk hy10; clear hy10; replace q10 := eq_true q10)))
            go_ret3
            exact ⟨_, _, by first | rfl | (simp [errW_none, errW_some] <;> rfl) | (simp only [← hji2]; first | rfl | (simp [errW_none, errW_some] <;> rfl)) | (simp [*, errW_none, errW_some] <;> rfl), by (with_reducible repeat (first | apply Kd.V_alloc | apply Kd.V_drewN | apply Kd.V_drew)); exact HO352.out, Kd.V_nil _ _ _ _ _, by repeat (first | (with_reducible first | exact HB.out | apply below_alloc | apply pw_below_drewN | apply below_drew1) | exact HB.out | exact HBq_.out | exact Below.refl _ _)⟩
          · rw [if_neg c9] at H
            exact absurd H (by simp)
        · rw [if_neg c7] at H
          have c7b0 : (t345 == 1) = false := beq_eq_false_iff_ne.mpr c7
          have c7b1 : (t345 != 1) = true := bne_iff_ne.mpr c7
          replace H := Option.bind_eq_some_iff.mp H
          obtain ⟨⟨t353, t354⟩, A110, H⟩ := H
          replace H : (if (ji2) < (t353.length : Int) then (if 0 < ((rd_L1 t353 (ji2)).length : Int) then (if 0 ≤ (wrap64 ((rd (rd_L1 t353 (ji2)) 0) + 1)) then (if (wrap64 ((rd (rd_L1 t353 (ji2)) 0) + 1)) ≤ (l0.length : Int) then (if (wrap64 ((rd (rd_L1 t353 (ji2)) 0) + 1)) ≤ (ji2) then (if (ji2) ≤ (l0.length : Int) then (some ((rd_T49 l0 (ji2)).f0, (l0.take ((wrap64 ((rd (rd_L1 t353 (ji2)) 0) + 1)) : Int).toNat), ((l0.take ((ji2) : Int).toNat).drop ((wrap64 ((rd (rd_L1 t353 (ji2)) 0) + 1)) : Int).toNat))) else (none)) else (none)) else (none)) else (none)) else (none)) else (none)) = some (r1, r2, r3) := H
          have A11 := Aside0.mk A110
          clear A110
          by_cases c12 : (ji2) < (t353.length : Int)
          · rw [if_pos c12] at H
            have c12b0 : decide ((ji2) < (t353.length : Int)) = true := decide_eq_true c12
            clear c12
            by_cases c13 : 0 < ((rd_L1 t353 (ji2)).length : Int)
            · rw [if_pos c13] at H
              have c13b0 : decide (0 < ((rd_L1 t353 (ji2)).length : Int)) = true := decide_eq_true c13
              have c13b1 : decide (0 < (rd_L1 t353 (ji2)).length) = true := decide_eq_true (by omega)
              clear c13
              obtain ⟨ji14, hji14⟩ : ∃ j_ : Int, (wrap64 ((rd (rd_L1 t353 (ji2)) 0) + 1)) = j_ := ⟨_, rfl⟩
              replace H : (if 0 ≤ (ji14) then (if (ji14) ≤ (l0.length : Int) then (if (ji14) ≤ (ji2) then (if (ji2) ≤ (l0.length : Int) then (some ((rd_T49 l0 (ji2)).f0, (l0.take ((ji14) : Int).toNat), ((l0.take ((ji2) : Int).toNat).drop ((ji14) : Int).toNat))) else (none)) else (none)) else (none)) else (none)) = some (r1, r2, r3) := by first | (rw [hji14] at H; exact H) | (simp only [hji14] at H ⊢; exact H)
              (try rw [hji14] at A5)
              (try rw [hji14] at A11)
              have hji14w : (IntKind.i64.wrap ((rd (rd_L1 t353 (ji2)) 0) + 1)) = ji14 := (i64_w _).trans hji14
              by_cases c15 : 0 ≤ (ji14)
              · rw [if_pos c15] at H
                have c15b0 := eq_true c15
                have c15b1 : decide (0 ≤ (ji14)) = true := decide_eq_true c15
                clear c15
                by_cases c16 : (ji14) ≤ (l0.length : Int)
                · rw [if_pos c16] at H
                  have c16b0 := eq_true c16
                  have c16b1 : decide ((ji14) ≤ (l0.length : Int)) = true := decide_eq_true c16
                  clear c16
                  obtain ⟨y360, hy360⟩ : ∃ y_ : List (S49), y_ = (l0.take ((ji14) : Int).toNat) := ⟨_, rfl⟩
                  replace H : (if (ji14) ≤ (ji2) then (if (ji2) ≤ (l0.length : Int) then (some ((rd_T49 l0 (ji2)).f0, y360, ((l0.take ((ji2) : Int).toNat).drop ((ji14) : Int).toNat))) else (none)) else (none)) = some (r1, r2, r3) := by first | (rw [hy360]; with_reducible exact H) | (have H2_ := (Option.bind_some _ _).symm.trans H; rw [hy360]; with_reducible exact H2_) | (have H2_ := (Option.bind_some _ _).symm.trans H; with_reducible exact H2_) | with_reducible exact H | (rw [hy360]; exact H) | exact H
                  have Ny360 := Aside0.mk hy360
                  clear hy360
                  have c17b0 := eq_true (of_decide_eq_true (by first | (with_reducible assumption) | assumption) : 0 ≤ (ji14))
                  by_cases c18 : (ji14) ≤ (ji2)
                  · rw [if_pos c18] at H
                    have c18b0 := eq_true c18
                    have c18b1 : decide ((ji14) ≤ (ji2)) = true := decide_eq_true c18
                    clear c18
                    by_cases c19 : (ji2) ≤ (l0.length : Int)
                    · rw [if_pos c19] at H
                      have c19b0 := eq_true c19
                      have c19b1 : decide ((ji2) ≤ (l0.length : Int)) = true := decide_eq_true c19
                      clear c19
                      obtain ⟨y365, hy365⟩ : ∃ y_ : List (S49), y_ = ((l0.take ((ji2) : Int).toNat).drop ((ji14) : Int).toNat) := ⟨_, rfl⟩
                      replace H : (some ((rd_T49 l0 (ji2)).f0, y360, y365)) = some (r1, r2, r3) := by first | (rw [hy365]; with_reducible exact H) | (have H2_ := (Option.bind_some _ _).symm.trans H; rw [hy365]; with_reducible exact H2_) | (have H2_ := (Option.bind_some _ _).symm.trans H; with_reducible exact H2_) | with_reducible exact H | (rw [hy365]; exact H) | exact H
                      have Ny365 := Aside0.mk hy365
                      clear hy365
                      simp only [Option.some.injEq, Prod.mk.injEq] at H
                      obtain ⟨rfl, rfl, rfl⟩ := H
                      have p344 : 0 ≤ ((ji2) : Int) := of_decide_eq_true (by first | (with_reducible assumption) | assumption)
                      have q344 : (ji2) < (l0.length : Int) := of_decide_eq_true (by first | (with_reducible assumption) | assumption)
                      obtain ⟨ad344, A344_1, c344_1, e344, hx344_0, hx344_1, hl344_1, hi344_1⟩ := at_T49 (Kd.V_reads' HO0.out).2.2 (ji2) p344 q344
                      cases e344
                      obtain ⟨ce344, hce344, hMe344, hcc344⟩ := Kd.V_get HO0.out z49 (ji2) p344 (by first | exact q344 | exact of_decide_eq_true (by first | (with_reducible assumption) | assumption) | (have e_ := (Kd.V_reads' HO0.out).1; omega))
                      obtain ⟨ua344_1, uc344_1, rfl, ul344_1, ge344_1⟩ := k49_openF hMe344
                      have hv344_1 := hcc344 1 _ rfl
                      rw [add_field _ _ 1 (by omega)] at hv344_1
                      replace hv344_1 := Option.some.inj (hv344_1.symm.trans hx344_1)
                      injection hv344_1 with hva_ hvn_ hvc_
                      rw [hva_] at ge344_1
                      rw [hvc_] at ul344_1
                      have HL344_1 := Aside0.mk (show Kd.V (Kd.int .i64) 3 _ w.heap.size _ _ ((rd_T49 l0 (ji2)).f1) from Kd.V_mk ul344_1 ge344_1)
                      clear hva_ hvn_ hvc_ ge344_1 ul344_1
                      clear hcc344 hce344
                      have HR344_1 := Aside0.mk hi344_1
                      have HC344_1 := Aside0.mk hl344_1
                      clear hi344_1 hl344_1
                      replace p344 := eq_true p344
                      replace q344 := eq_true q344
                      go_enter Try.func95, Try.ntmps95
                      go_wp2_with (first | (go_at_call 84; (with_reducible refine (impl_partsOf.calls k ((rd_T49 l0 (ji2)).f0) t345 _ A5.out).mono ?_); rintro e w' ⟨rfl, ⟨nd, rfl⟩⟩; (try first | exact ⟨rfl, _, World.drewN_drewN _ _ _⟩ | exact ⟨rfl, _, Eq.trans (World.drewN_drewN _ _ _) (congrArg (World.drewN _) (Nat.add_assoc _ _ _))⟩)) | (go_at_call 51; (with_reducible refine (impl_parts.calls k _ _ l0 t353 t354 _ ?side1 ?side2 A11.out).mono ?_); (case side1 => repeat (first | exact (Kd.V_reads' HO0.out).2.2 | (with_reducible refine Kd.C_alloc ?_ _) | (with_reducible refine Kd.C_drewN ?_ _) | (with_reducible refine Kd.C_drew ?_))); (case side2 => exact (Kd.V_reads' HO0.out).2.1); rintro e w20 ⟨v355, rfl, ho0, hb⟩; have n0_ := Aside0.mk (Kd.V_elder' (by (with_reducible repeat (first | apply Kd.V_alloc | apply Kd.V_drewN | apply Kd.V_drew)); exact HO0.out) (Kd.S_base ho0) hb); have n1_ := Aside0.mk (Kd.V_elder' (by (with_reducible repeat (first | apply Kd.V_alloc | apply Kd.V_drewN | apply Kd.V_drew)); exact HL344_1.out) (Kd.S_base ho0) hb); have n2_ := Aside0.mk (Kd.S_lower (Kd.S_newM (M := fun k_ => (w.heap.size ≤ k_)) ho0 (below_size (by repeat (first | (with_reducible first | exact HB.out | apply below_alloc | apply pw_below_drewN | apply below_drew1) | exact HB.out | exact HBq_.out | exact Below.refl _ _))) (fun k_ h_ => h_)) (below_size (by repeat (first | (with_reducible first | exact HB.out | apply below_alloc | apply pw_below_drewN | apply below_drew1) | exact HB.out | exact HBq_.out | exact Below.refl _ _)))); have n3_ := Aside0.mk (Kd.C_below (by repeat (first | (with_reducible exact HR344_1.out) | (with_reducible refine Kd.C_alloc ?_ _) | (with_reducible refine Kd.C_drewN ?_ _) | (with_reducible refine Kd.C_drew ?_) | exact HR344_1.out)) hb); have n4_ := Aside0.mk (below_step (by repeat (first | (with_reducible first | exact HB.out | apply below_alloc | apply pw_below_drewN | apply below_drew1) | exact HB.out | exact HBq_.out | exact Below.refl _ _)) hb); clear HO0; clear HL344_1; clear HR344_1; clear HB; have HO0 := n0_; have HL344_1 := n1_; have HO356 := n2_; have HR344_1 := n3_; have HB := n4_; clear n0_ n1_ n2_ n3_ n4_; (try clear hb); (try clear hb2); (try clear hk); (try clear hi); (try clear ho0); obtain ⟨Ao21, co21, eo21⟩ := Kd.S_slice HO356.out; subst eo21; have p357 : 0 ≤ ((ji2) : Int) := of_decide_eq_true (by first | (with_reducible assumption) | assumption); have q357 : (ji2) < (t353.length : Int) := of_decide_eq_true (by first | (with_reducible assumption) | assumption); obtain ⟨ad357, A357_0, c357_0, e357, hx357_0, hl357_0, hi357_0⟩ := at_L1 (Kd.S_reads' HO356.out).2.2 (ji2) p357 q357; cases e357; obtain ⟨ce357, hce357, hMe357, hcc357⟩ := Kd.S_get HO356.out [] (ji2) p357 (by first | exact q357 | exact of_decide_eq_true (by first | (with_reducible assumption) | assumption) | (have e_ := (Kd.S_reads' HO356.out).1; omega)); obtain ⟨ve357_0, rfl, ge357_0⟩ := hMe357; have hv357_0 := hcc357 0 _ rfl; rw [Nat.add_zero, show ((Kd.slice 3 (Kd.int .i64))).sz = 1 from rfl, Nat.mul_one] at hv357_0; replace hv357_0 := Option.some.inj (hv357_0.symm.trans hx357_0); rw [hv357_0] at ge357_0; have HL357_0 := Aside0.mk (show Kd.R (Kd.int .i64) 3 _ _ _ _ (rd_L1 t353 (ji2)) from ge357_0); clear hv357_0 ge357_0; clear hcc357 hce357; have HR357_0 := Aside0.mk hi357_0; have HC357_0 := Aside0.mk hl357_0; clear hi357_0 hl357_0; replace p357 := eq_true p357; replace q357 := eq_true q357; have p358 : 0 ≤ (0 : Int) := (by omega); have q358 : 0 < ((rd_L1 t353 (ji2)).length : Int) := of_decide_eq_true (by first | (with_reducible assumption) | assumption); obtain ⟨ad358, e358, hx358_0⟩ := Kd.at_int (by repeat (first | (with_reducible exact HR357_0.out) | (with_reducible refine Kd.C_alloc ?_ _) | (with_reducible refine Kd.C_drewN ?_ _) | (with_reducible refine Kd.C_drew ?_) | exact HR357_0.out)) 0 p358 q358; cases e358; have qi358 : (0 < (rd_L1 t353 (ji2)).length) = True := eq_true (by omega); (try rw [show ((0 : Int)).toNat = 0 from rfl] at hx358_0); (try rw [Addr.add_zero'] at hx358_0); replace p358 := eq_true p358; replace q358 := eq_true q358; have p359 : 0 ≤ ((ji2) : Int) := of_decide_eq_true (by first | (with_reducible assumption) | assumption); have q359 : (ji2) < (l0.length : Int) := of_decide_eq_true (by first | (with_reducible assumption) | assumption); obtain ⟨ad359, A359_1, c359_1, e359, hx359_0, hx359_1, hl359_1, hi359_1⟩ := at_T49 (Kd.V_reads' HO0.out).2.2 (ji2) p359 q359; obtain rfl : ad344 = ad359 := (by injection e359); obtain ⟨ce359, hce359, hMe359, hcc359⟩ := Kd.V_get HO0.out z49 (ji2) p359 (by first | exact q359 | exact of_decide_eq_true (by first | (with_reducible assumption) | assumption) | (have e_ := (Kd.V_reads' HO0.out).1; omega)); obtain ⟨ua359_1, uc359_1, rfl, ul359_1, ge359_1⟩ := k49_openF hMe359; have hv359_1 := hcc359 1 _ rfl; rw [add_field _ _ 1 (by omega)] at hv359_1; replace hv359_1 := Option.some.inj (hv359_1.symm.trans hx359_1); injection hv359_1 with hva_ hvn_ hvc_; rw [hva_] at ge359_1; rw [hvc_] at ul359_1; have HL359_1 := Aside0.mk (show Kd.V (Kd.int .i64) 3 _ w.heap.size _ _ ((rd_T49 l0 (ji2)).f1) from Kd.V_mk ul359_1 ge359_1); clear hva_ hvn_ hvc_ ge359_1 ul359_1; clear hcc359 hce359; have HR359_1 := Aside0.mk hi359_1; have HC359_1 := Aside0.mk hl359_1; clear hi359_1 hl359_1; replace p359 := eq_true p359; replace q359 := eq_true q359; have q22 : ((ji14) : Int) ≤ ((l0.length : Int) : Int) := of_decide_eq_true (by first | (with_reducible assumption) | assumption); obtain ⟨i022, hi022, _, hsz22, _⟩ := info_parts info49; have hroom22 : l0.length ≤ c0 := (Kd.V_reads' HO0.out).2.1; have hC22 : Kd.F k49 _ _ (some ad344) l0.length l0 := (Kd.V_at (base := w.heap.size) HO0.out).2.2; have hcut22 := cut_to (P := Try.prog) 25 49 .i64 Try.underlying25 hi022 (some ad344) l0.length c0 (ji14) (of_decide_eq_true (by first | (with_reducible assumption) | assumption)) q22 hroom22; have hr22 := Kd.F_take (m := ((ji14) : Int).toNat) hC22 (by omega); have hy22 : y360.length = ((ji14) : Int).toNat := (by rw [Ny360.out, List.length_take]; omega); rw [← Ny360.out] at hr22; rw [← hy22] at hcut22; have HO364 := Aside0.mk (show Kd.V k49 49 _ w.heap.size _ (.slice (some ad344) y360.length c0) y360 from Kd.V_mk (by omega) hr22); have HC364 := Aside0.mk (show y360.length ≤ c0 from by omega); clear hr22 hC22 hroom22 hi022 hsz22; have KY22 := Aside0.mk hy22; clear hy22; replace q22 := eq_true q22; have q23 : ((ji2) : Int) ≤ ((l0.length : Int) : Int) := of_decide_eq_true (by first | (with_reducible assumption) | assumption); obtain ⟨i023, hi023, _, hsz23, _⟩ := info_parts info49; have hroom23 : l0.length ≤ c0 := (Kd.V_reads' HO0.out).2.1; have hC23 : Kd.F k49 _ _ (some ad344) l0.length l0 := (Kd.V_at (base := w.heap.size) HO0.out).2.2; have ql23 : ((ji14) : Int) ≤ ((ji2) : Int) := of_decide_eq_true (by first | (with_reducible assumption) | assumption); have q023 : (0 : Int) ≤ ((ji14) : Int) := of_decide_eq_true (by first | (with_reducible assumption) | assumption); have hcut23 := cut_mid (P := Try.prog) 25 49 .i64 .i64 Try.underlying25 hi023 2 hsz23 (some ad344) l0.length c0 (ji14) (ji2) q023 ql23 q23 hroom23; have hr23 := Kd.F_mid (lo := ((ji14) : Int).toNat) (hi := ((ji2) : Int).toNat) (c := c0) hC23 (by omega) (by omega) hroom23; obtain ⟨A23, hA23⟩ : ∃ A1, A1 = (if c0 = ((ji14) : Int).toNat then (some ad344) else ((some ad344) : Option Addr).map (·.add (((ji14) : Int).toNat * 2))) := ⟨_, rfl⟩; obtain ⟨c23, hc23⟩ : ∃ c1, c1 = c0 - ((ji14) : Int).toNat := ⟨_, rfl⟩; have hy23 : y365.length = ((ji2) : Int).toNat - ((ji14) : Int).toNat := (by rw [Ny365.out, List.length_drop, List.length_take] <;> omega); rw [show ((l0).take ((ji2) : Int).toNat).drop ((ji14) : Int).toNat = y365 from Ny365.out.symm] at hr23; replace hr23 : Kd.F k49 _ _ A23 y365.length y365 := (by rw [hA23]; exact hr23); rw [← hy23, ← hA23, ← hc23] at hcut23; have HO369 := Aside0.mk (show Kd.V k49 49 _ w.heap.size _ (.slice A23 y365.length c23) y365 from Kd.V_mk (by rw [hy23, hc23]; exact Nat.sub_le_sub_right (Nat.le_trans (by omega) hroom23) _) hr23); have HC369 := Aside0.mk (show y365.length ≤ c23 from by rw [hy23, hc23]; exact Nat.sub_le_sub_right (Nat.le_trans (by omega) hroom23) _); clear hr23 hC23 hroom23 hi023 hsz23 hc23; have KY23 := Aside0.mk hy23; have KA23 := Aside0.mk hA23; clear hy23 hA23; replace q23 := eq_true q23))
                      repeat (go_quiet (first | (go_at_call 84; (with_reducible refine (impl_partsOf.calls k ((rd_T49 l0 (ji2)).f0) t345 _ A5.out).mono ?_); rintro e w' ⟨rfl, ⟨nd, rfl⟩⟩; (try first | exact ⟨rfl, _, World.drewN_drewN _ _ _⟩ | exact ⟨rfl, _, Eq.trans (World.drewN_drewN _ _ _) (congrArg (World.drewN _) (Nat.add_assoc _ _ _))⟩)) | (go_at_call 51; (with_reducible refine (impl_parts.calls k _ _ l0 t353 t354 _ ?side1 ?side2 A11.out).mono ?_); (case side1 => repeat (first | exact (Kd.V_reads' HO0.out).2.2 | (with_reducible refine Kd.C_alloc ?_ _) | (with_reducible refine Kd.C_drewN ?_ _) | (with_reducible refine Kd.C_drew ?_))); (case side2 => exact (Kd.V_reads' HO0.out).2.1); rintro e w20 ⟨v355, rfl, ho0, hb⟩; have n0_ := Aside0.mk (Kd.V_elder' (by (with_reducible repeat (first | apply Kd.V_alloc | apply Kd.V_drewN | apply Kd.V_drew)); exact HO0.out) (Kd.S_base ho0) hb); have n1_ := Aside0.mk (Kd.V_elder' (by (with_reducible repeat (first | apply Kd.V_alloc | apply Kd.V_drewN | apply Kd.V_drew)); exact HL344_1.out) (Kd.S_base ho0) hb); have n2_ := Aside0.mk (Kd.S_lower (Kd.S_newM (M := fun k_ => (w.heap.size ≤ k_)) ho0 (below_size (by repeat (first | (with_reducible first | exact HB.out | apply below_alloc | apply pw_below_drewN | apply below_drew1) | exact HB.out | exact HBq_.out | exact Below.refl _ _))) (fun k_ h_ => h_)) (below_size (by repeat (first | (with_reducible first | exact HB.out | apply below_alloc | apply pw_below_drewN | apply below_drew1) | exact HB.out | exact HBq_.out | exact Below.refl _ _)))); have n3_ := Aside0.mk (Kd.C_below (by repeat (first | (with_reducible exact HR344_1.out) | (with_reducible refine Kd.C_alloc ?_ _) | (with_reducible refine Kd.C_drewN ?_ _) | (with_reducible refine Kd.C_drew ?_) | exact HR344_1.out)) hb); have n4_ := Aside0.mk (below_step (by repeat (first | (with_reducible first | exact HB.out | apply below_alloc | apply pw_below_drewN | apply below_drew1) | exact HB.out | exact HBq_.out | exact Below.refl _ _)) hb); clear HO0; clear HL344_1; clear HR344_1; clear HB; have HO0 := n0_; have HL344_1 := n1_; have HO356 := n2_; have HR344_1 := n3_; have HB := n4_; clear n0_ n1_ n2_ n3_ n4_; (try clear hb); (try clear hb2); (try clear hk); (try clear hi); (try clear ho0); obtain ⟨Ao21, co21, eo21⟩ := Kd.S_slice HO356.out; subst eo21; have p357 : 0 ≤ ((ji2) : Int) := of_decide_eq_true (by first | (with_reducible assumption) | assumption); have q357 : (ji2) < (t353.length : Int) := of_decide_eq_true (by first | (with_reducible assumption) | assumption); obtain ⟨ad357, A357_0, c357_0, e357, hx357_0, hl357_0, hi357_0⟩ := at_L1 (Kd.S_reads' HO356.out).2.2 (ji2) p357 q357; cases e357; obtain ⟨ce357, hce357, hMe357, hcc357⟩ := Kd.S_get HO356.out [] (ji2) p357 (by first | exact q357 | exact of_decide_eq_true (by first | (with_reducible assumption) | assumption) | (have e_ := (Kd.S_reads' HO356.out).1; omega)); obtain ⟨ve357_0, rfl, ge357_0⟩ := hMe357; have hv357_0 := hcc357 0 _ rfl; rw [Nat.add_zero, show ((Kd.slice 3 (Kd.int .i64))).sz = 1 from rfl, Nat.mul_one] at hv357_0; replace hv357_0 := Option.some.inj (hv357_0.symm.trans hx357_0); rw [hv357_0] at ge357_0; have HL357_0 := Aside0.mk (show Kd.R (Kd.int .i64) 3 _ _ _ _ (rd_L1 t353 (ji2)) from ge357_0); clear hv357_0 ge357_0; clear hcc357 hce357; have HR357_0 := Aside0.mk hi357_0; have HC357_0 := Aside0.mk hl357_0; clear hi357_0 hl357_0; replace p357 := eq_true p357; replace q357 := eq_true q357; have p358 : 0 ≤ (0 : Int) := (by omega); have q358 : 0 < ((rd_L1 t353 (ji2)).length : Int) := of_decide_eq_true (by first | (with_reducible assumption) | assumption); obtain ⟨ad358, e358, hx358_0⟩ := Kd.at_int (by repeat (first | (with_reducible exact HR357_0.out) | (with_reducible refine Kd.C_alloc ?_ _) | (with_reducible refine Kd.C_drewN ?_ _) | (with_reducible refine Kd.C_drew ?_) | exact HR357_0.out)) 0 p358 q358; cases e358; have qi358 : (0 < (rd_L1 t353 (ji2)).length) = True := eq_true (by omega); (try rw [show ((0 : Int)).toNat = 0 from rfl] at hx358_0); (try rw [Addr.add_zero'] at hx358_0); replace p358 := eq_true p358; replace q358 := eq_true q358; have p359 : 0 ≤ ((ji2) : Int) := of_decide_eq_true (by first | (with_reducible assumption) | assumption); have q359 : (ji2) < (l0.length : Int) := of_decide_eq_true (by first | (with_reducible assumption) | assumption); obtain ⟨ad359, A359_1, c359_1, e359, hx359_0, hx359_1, hl359_1, hi359_1⟩ := at_T49 (Kd.V_reads' HO0.out).2.2 (ji2) p359 q359; obtain rfl : ad344 = ad359 := (by injection e359); obtain ⟨ce359, hce359, hMe359, hcc359⟩ := Kd.V_get HO0.out z49 (ji2) p359 (by first | exact q359 | exact of_decide_eq_true (by first | (with_reducible assumption) | assumption) | (have e_ := (Kd.V_reads' HO0.out).1; omega)); obtain ⟨ua359_1, uc359_1, rfl, ul359_1, ge359_1⟩ := k49_openF hMe359; have hv359_1 := hcc359 1 _ rfl; rw [add_field _ _ 1 (by omega)] at hv359_1; replace hv359_1 := Option.some.inj (hv359_1.symm.trans hx359_1); injection hv359_1 with hva_ hvn_ hvc_; rw [hva_] at ge359_1; rw [hvc_] at ul359_1; have HL359_1 := Aside0.mk (show Kd.V (Kd.int .i64) 3 _ w.heap.size _ _ ((rd_T49 l0 (ji2)).f1) from Kd.V_mk ul359_1 ge359_1); clear hva_ hvn_ hvc_ ge359_1 ul359_1; clear hcc359 hce359; have HR359_1 := Aside0.mk hi359_1; have HC359_1 := Aside0.mk hl359_1; clear hi359_1 hl359_1; replace p359 := eq_true p359; replace q359 := eq_true q359; have q22 : ((ji14) : Int) ≤ ((l0.length : Int) : Int) := of_decide_eq_true (by first | (with_reducible assumption) | assumption); obtain ⟨i022, hi022, _, hsz22, _⟩ := info_parts info49; have hroom22 : l0.length ≤ c0 := (Kd.V_reads' HO0.out).2.1; have hC22 : Kd.F k49 _ _ (some ad344) l0.length l0 := (Kd.V_at (base := w.heap.size) HO0.out).2.2; have hcut22 := cut_to (P := Try.prog) 25 49 .i64 Try.underlying25 hi022 (some ad344) l0.length c0 (ji14) (of_decide_eq_true (by first | (with_reducible assumption) | assumption)) q22 hroom22; have hr22 := Kd.F_take (m := ((ji14) : Int).toNat) hC22 (by omega); have hy22 : y360.length = ((ji14) : Int).toNat := (by rw [Ny360.out, List.length_take]; omega); rw [← Ny360.out] at hr22; rw [← hy22] at hcut22; have HO364 := Aside0.mk (show Kd.V k49 49 _ w.heap.size _ (.slice (some ad344) y360.length c0) y360 from Kd.V_mk (by omega) hr22); have HC364 := Aside0.mk (show y360.length ≤ c0 from by omega); clear hr22 hC22 hroom22 hi022 hsz22; have KY22 := Aside0.mk hy22; clear hy22; replace q22 := eq_true q22; have q23 : ((ji2) : Int) ≤ ((l0.length : Int) : Int) := of_decide_eq_true (by first | (with_reducible assumption) | assumption); obtain ⟨i023, hi023, _, hsz23, _⟩ := info_parts info49; have hroom23 : l0.length ≤ c0 := (Kd.V_reads' HO0.out).2.1; have hC23 : Kd.F k49 _ _ (some ad344) l0.length l0 := (Kd.V_at (base := w.heap.size) HO0.out).2.2; have ql23 : ((ji14) : Int) ≤ ((ji2) : Int) := of_decide_eq_true (by first | (with_reducible assumption) | assumption); have q023 : (0 : Int) ≤ ((ji14) : Int) := of_decide_eq_true (by first | (with_reducible assumption) | assumption); have hcut23 := cut_mid (P := Try.prog) 25 49 .i64 .i64 Try.underlying25 hi023 2 hsz23 (some ad344) l0.length c0 (ji14) (ji2) q023 ql23 q23 hroom23; have hr23 := Kd.F_mid (lo := ((ji14) : Int).toNat) (hi := ((ji2) : Int).toNat) (c := c0) hC23 (by omega) (by omega) hroom23; obtain ⟨A23, hA23⟩ : ∃ A1, A1 = (if c0 = ((ji14) : Int).toNat then (some ad344) else ((some ad344) : Option Addr).map (·.add (((ji14) : Int).toNat * 2))) := ⟨_, rfl⟩; obtain ⟨c23, hc23⟩ : ∃ c1, c1 = c0 - ((ji14) : Int).toNat := ⟨_, rfl⟩; have hy23 : y365.length = ((ji2) : Int).toNat - ((ji14) : Int).toNat := (by rw [Ny365.out, List.length_drop, List.length_take] <;> omega); rw [show ((l0).take ((ji2) : Int).toNat).drop ((ji14) : Int).toNat = y365 from Ny365.out.symm] at hr23; replace hr23 : Kd.F k49 _ _ A23 y365.length y365 := (by rw [hA23]; exact hr23); rw [← hy23, ← hA23, ← hc23] at hcut23; have HO369 := Aside0.mk (show Kd.V k49 49 _ w.heap.size _ (.slice A23 y365.length c23) y365 from Kd.V_mk (by rw [hy23, hc23]; exact Nat.sub_le_sub_right (Nat.le_trans (by omega) hroom23) _) hr23); have HC369 := Aside0.mk (show y365.length ≤ c23 from by rw [hy23, hc23]; exact Nat.sub_le_sub_right (Nat.le_trans (by omega) hroom23) _); clear hr23 hC23 hroom23 hi023 hsz23 hc23; have KY23 := Aside0.mk hy23; have KA23 := Aside0.mk hA23; clear hy23 hA23; replace q23 := eq_true q23)); try go_wp2_with (first | (go_at_call 84; (with_reducible refine (impl_partsOf.calls k ((rd_T49 l0 (ji2)).f0) t345 _ A5.out).mono ?_); rintro e w' ⟨rfl, ⟨nd, rfl⟩⟩; (try first | exact ⟨rfl, _, World.drewN_drewN _ _ _⟩ | exact ⟨rfl, _, Eq.trans (World.drewN_drewN _ _ _) (congrArg (World.drewN _) (Nat.add_assoc _ _ _))⟩)) | (go_at_call 51; (with_reducible refine (impl_parts.calls k _ _ l0 t353 t354 _ ?side1 ?side2 A11.out).mono ?_); (case side1 => repeat (first | exact (Kd.V_reads' HO0.out).2.2 | (with_reducible refine Kd.C_alloc ?_ _) | (with_reducible refine Kd.C_drewN ?_ _) | (with_reducible refine Kd.C_drew ?_))); (case side2 => exact (Kd.V_reads' HO0.out).2.1); rintro e w20 ⟨v355, rfl, ho0, hb⟩; have n0_ := Aside0.mk (Kd.V_elder' (by (with_reducible repeat (first | apply Kd.V_alloc | apply Kd.V_drewN | apply Kd.V_drew)); exact HO0.out) (Kd.S_base ho0) hb); have n1_ := Aside0.mk (Kd.V_elder' (by (with_reducible repeat (first | apply Kd.V_alloc | apply Kd.V_drewN | apply Kd.V_drew)); exact HL344_1.out) (Kd.S_base ho0) hb); have n2_ := Aside0.mk (Kd.S_lower (Kd.S_newM (M := fun k_ => (w.heap.size ≤ k_)) ho0 (below_size (by repeat (first | (with_reducible first | exact HB.out | apply below_alloc | apply pw_below_drewN | apply below_drew1) | exact HB.out | exact HBq_.out | exact Below.refl _ _))) (fun k_ h_ => h_)) (below_size (by repeat (first | (with_reducible first | exact HB.out | apply below_alloc | apply pw_below_drewN | apply below_drew1) | exact HB.out | exact HBq_.out | exact Below.refl _ _)))); have n3_ := Aside0.mk (Kd.C_below (by repeat (first | (with_reducible exact HR344_1.out) | (with_reducible refine Kd.C_alloc ?_ _) | (with_reducible refine Kd.C_drewN ?_ _) | (with_reducible refine Kd.C_drew ?_) | exact HR344_1.out)) hb); have n4_ := Aside0.mk (below_step (by repeat (first | (with_reducible first | exact HB.out | apply below_alloc | apply pw_below_drewN | apply below_drew1) | exact HB.out | exact HBq_.out | exact Below.refl _ _)) hb); clear HO0; clear HL344_1; clear HR344_1; clear HB; have HO0 := n0_; have HL344_1 := n1_; have HO356 := n2_; have HR344_1 := n3_; have HB := n4_; clear n0_ n1_ n2_ n3_ n4_; (try clear hb); (try clear hb2); (try clear hk); (try clear hi); (try clear ho0); obtain ⟨Ao21, co21, eo21⟩ := Kd.S_slice HO356.out; subst eo21; have p357 : 0 ≤ ((ji2) : Int) := of_decide_eq_true (by first | (with_reducible assumption) | assumption); have q357 : (ji2) < (t353.length : Int) := of_decide_eq_true (by first | (with_reducible assumption) | assumption); obtain ⟨ad357, A357_0, c357_0, e357, hx357_0, hl357_0, hi357_0⟩ := at_L1 (Kd.S_reads' HO356.out).2.2 (ji2) p357 q357; cases e357; obtain ⟨ce357, hce357, hMe357, hcc357⟩ := Kd.S_get HO356.out [] (ji2) p357 (by first | exact q357 | exact of_decide_eq_true (by first | (with_reducible assumption) | assumption) | (have e_ := (Kd.S_reads' HO356.out).1; omega)); obtain ⟨ve357_0, rfl, ge357_0⟩ := hMe357; have hv357_0 := hcc357 0 _ rfl; rw [Nat.add_zero, show ((Kd.slice 3 (Kd.int .i64))).sz = 1 from rfl, Nat.mul_one] at hv357_0; replace hv357_0 := Option.some.inj (hv357_0.symm.trans hx357_0); rw [hv357_0] at ge357_0; have HL357_0 := Aside0.mk (show Kd.R (Kd.int .i64) 3 _ _ _ _ (rd_L1 t353 (ji2)) from ge357_0); clear hv357_0 ge357_0; clear hcc357 hce357; have HR357_0 := Aside0.mk hi357_0; have HC357_0 := Aside0.mk hl357_0; clear hi357_0 hl357_0; replace p357 := eq_true p357; replace q357 := eq_true q357; have p358 : 0 ≤ (0 : Int) := (by omega); have q358 : 0 < ((rd_L1 t353 (ji2)).length : Int) := of_decide_eq_true (by first | (with_reducible assumption) | assumption); obtain ⟨ad358, e358, hx358_0⟩ := Kd.at_int (by repeat (first | (with_reducible exact HR357_0.out) | (with_reducible refine Kd.C_alloc ?_ _) | (with_reducible refine Kd.C_drewN ?_ _) | (with_reducible refine Kd.C_drew ?_) | exact HR357_0.out)) 0 p358 q358; cases e358; have qi358 : (0 < (rd_L1 t353 (ji2)).length) = True := eq_true (by omega); (try rw [show ((0 : Int)).toNat = 0 from rfl] at hx358_0); (try rw [Addr.add_zero'] at hx358_0); replace p358 := eq_true p358; replace q358 := eq_true q358; have p359 : 0 ≤ ((ji2) : Int) := of_decide_eq_true (by first | (with_reducible assumption) | assumption); have q359 : (ji2) < (l0.length : Int) := of_decide_eq_true (by first | (with_reducible assumption) | assumption); obtain ⟨ad359, A359_1, c359_1, e359, hx359_0, hx359_1, hl359_1, hi359_1⟩ := at_T49 (Kd.V_reads' HO0.out).2.2 (ji2) p359 q359; obtain rfl : ad344 = ad359 := (by injection e359); obtain ⟨ce359, hce359, hMe359, hcc359⟩ := Kd.V_get HO0.out z49 (ji2) p359 (by first | exact q359 | exact of_decide_eq_true (by first | (with_reducible assumption) | assumption) | (have e_ := (Kd.V_reads' HO0.out).1; omega)); obtain ⟨ua359_1, uc359_1, rfl, ul359_1, ge359_1⟩ := k49_openF hMe359; have hv359_1 := hcc359 1 _ rfl; rw [add_field _ _ 1 (by omega)] at hv359_1; replace hv359_1 := Option.some.inj (hv359_1.symm.trans hx359_1); injection hv359_1 with hva_ hvn_ hvc_; rw [hva_] at ge359_1; rw [hvc_] at ul359_1; have HL359_1 := Aside0.mk (show Kd.V (Kd.int .i64) 3 _ w.heap.size _ _ ((rd_T49 l0 (ji2)).f1) from Kd.V_mk ul359_1 ge359_1); clear hva_ hvn_ hvc_ ge359_1 ul359_1; clear hcc359 hce359; have HR359_1 := Aside0.mk hi359_1; have HC359_1 := Aside0.mk hl359_1; clear hi359_1 hl359_1; replace p359 := eq_true p359; replace q359 := eq_true q359; have q22 : ((ji14) : Int) ≤ ((l0.length : Int) : Int) := of_decide_eq_true (by first | (with_reducible assumption) | assumption); obtain ⟨i022, hi022, _, hsz22, _⟩ := info_parts info49; have hroom22 : l0.length ≤ c0 := (Kd.V_reads' HO0.out).2.1; have hC22 : Kd.F k49 _ _ (some ad344) l0.length l0 := (Kd.V_at (base := w.heap.size) HO0.out).2.2; have hcut22 := cut_to (P := Try.prog) 25 49 .i64 Try.underlying25 hi022 (some ad344) l0.length c0 (ji14) (of_decide_eq_true (by first | (with_reducible assumption) | assumption)) q22 hroom22; have hr22 := Kd.F_take (m := ((ji14) : Int).toNat) hC22 (by omega); have hy22 : y360.length = ((ji14) : Int).toNat := (by rw [Ny360.out, List.length_take]; omega); rw [← Ny360.out] at hr22; rw [← hy22] at hcut22; have HO364 := Aside0.mk (show Kd.V k49 49 _ w.heap.size _ (.slice (some ad344) y360.length c0) y360 from Kd.V_mk (by omega) hr22); have HC364 := Aside0.mk (show y360.length ≤ c0 from by omega); clear hr22 hC22 hroom22 hi022 hsz22; have KY22 := Aside0.mk hy22; clear hy22; replace q22 := eq_true q22; have q23 : ((ji2) : Int) ≤ ((l0.length : Int) : Int) := of_decide_eq_true (by first | (with_reducible assumption) | assumption); obtain ⟨i023, hi023, _, hsz23, _⟩ := info_parts info49; have hroom23 : l0.length ≤ c0 := (Kd.V_reads' HO0.out).2.1; have hC23 : Kd.F k49 _ _ (some ad344) l0.length l0 := (Kd.V_at (base := w.heap.size) HO0.out).2.2; have ql23 : ((ji14) : Int) ≤ ((ji2) : Int) := of_decide_eq_true (by first | (with_reducible assumption) | assumption); have q023 : (0 : Int) ≤ ((ji14) : Int) := of_decide_eq_true (by first | (with_reducible assumption) | assumption); have hcut23 := cut_mid (P := Try.prog) 25 49 .i64 .i64 Try.underlying25 hi023 2 hsz23 (some ad344) l0.length c0 (ji14) (ji2) q023 ql23 q23 hroom23; have hr23 := Kd.F_mid (lo := ((ji14) : Int).toNat) (hi := ((ji2) : Int).toNat) (c := c0) hC23 (by omega) (by omega) hroom23; obtain ⟨A23, hA23⟩ : ∃ A1, A1 = (if c0 = ((ji14) : Int).toNat then (some ad344) else ((some ad344) : Option Addr).map (·.add (((ji14) : Int).toNat * 2))) := ⟨_, rfl⟩; obtain ⟨c23, hc23⟩ : ∃ c1, c1 = c0 - ((ji14) : Int).toNat := ⟨_, rfl⟩; have hy23 : y365.length = ((ji2) : Int).toNat - ((ji14) : Int).toNat := (by rw [Ny365.out, List.length_drop, List.length_take] <;> omega); rw [show ((l0).take ((ji2) : Int).toNat).drop ((ji14) : Int).toNat = y365 from Ny365.out.symm] at hr23; replace hr23 : Kd.F k49 _ _ A23 y365.length y365 := (by rw [hA23]; exact hr23); rw [← hy23, ← hA23, ← hc23] at hcut23; have HO369 := Aside0.mk (show Kd.V k49 49 _ w.heap.size _ (.slice A23 y365.length c23) y365 from Kd.V_mk (by rw [hy23, hc23]; exact Nat.sub_le_sub_right (Nat.le_trans (by omega) hroom23) _) hr23); have HC369 := Aside0.mk (show y365.length ≤ c23 from by rw [hy23, hc23]; exact Nat.sub_le_sub_right (Nat.le_trans (by omega) hroom23) _); clear hr23 hC23 hroom23 hi023 hsz23 hc23; have KY23 := Aside0.mk hy23; have KA23 := Aside0.mk hA23; clear hy23 hA23; replace q23 := eq_true q23)))
                      go_ret3
                      exact ⟨_, _, by first | rfl | (simp [errW_none, errW_some] <;> rfl) | (simp only [← hji2, ← hji14]; first | rfl | (simp [errW_none, errW_some] <;> rfl)) | (simp [*, errW_none, errW_some] <;> rfl), by (with_reducible repeat (first | apply Kd.V_alloc | apply Kd.V_drewN | apply Kd.V_drew)); exact Kd.V_mono HO364.out (fun _ hk => hk.1), by (with_reducible repeat (first | apply Kd.V_alloc | apply Kd.V_drewN | apply Kd.V_drew)); exact Kd.V_mono HO369.out (fun _ hk => hk.1), by repeat (first | (with_reducible first | exact HB.out | apply below_alloc | apply pw_below_drewN | apply below_drew1) | exact HB.out | exact HBq_.out | exact Below.refl _ _)⟩
                    · rw [if_neg c19] at H
                      exact absurd H (by simp)
                  · rw [if_neg c18] at H
                    exact absurd H (by simp)
                · rw [if_neg c16] at H
                  exact absurd H (by simp)
              · rw [if_neg c15] at H
                exact absurd H (by simp)
            · rw [if_neg c13] at H
              exact absurd H (by simp)
          · rw [if_neg c12] at H
            exact absurd H (by simp)
    · rw [if_neg c4] at H
      exact absurd H (by simp)
  · rw [if_neg c3] at H
    exact absurd H (by simp)

/-! ### impl_spansOf: function 102 -/
def impl_spansOf.l0 : Nat → List Int → List (S92) → Int → Option ((List (S92)))
  | 0, _, _, _ => none
  | k + 1, x0, x3, x4 => if (wrap64 (x4 + 1)) < (x0.length : Int) then (if 0 ≤ x4 then (if x4 < (x0.length : Int) then (if 0 ≤ (wrap64 (x4 + 1)) then (if x3.length < 8796093022208 then (impl_spansOf.l0 k x0 (x3 ++ [(⟨rd x0 x4, rd x0 (wrap64 (x4 + 1))⟩ : S92)]) (wrap64 (x4 + 2))) else (none)) else (none)) else (none)) else (none)) else (some x3)
def impl_spansOf.f (k : Nat) (l0 : List Int) : Option ((List (S92))) := impl_spansOf.l0 k l0 (([] : List (S92))) 0
theorem impl_spansOf.mono_l : ∀ k, (∀ y0 y1 y2, LeO (impl_spansOf.l0 k y0 y1 y2) (impl_spansOf.l0 (k + 1) y0 y1 y2))
  | 0 => fun _ _ _ r h => by simp [impl_spansOf.l0] at h
  | k + 1 => by
    have ih0 := impl_spansOf.mono_l k
    · intro y0 y1 y2
      unfold impl_spansOf.l0
      repeat' first
      | (with_reducible exact ih0 _ _ _)
      | (with_reducible exact LeO.refl _)
      | (with_reducible exact LeO.none _)
      | (with_reducible refine LeO.ite ?_ ?_)
      | (with_reducible refine LeO.bind ?_ (fun _ => ?_))
      | exact ih0 _ _ _
      | exact LeO.none _
      | refine LeO.ite ?_ ?_
      | refine LeO.bind ?_ (fun _ => ?_)
theorem impl_spansOf.mono : ∀ a0 k, LeO (impl_spansOf.f k a0) (impl_spansOf.f (k + 1) a0) := by
  intro a0 k
  have ih0 := impl_spansOf.mono_l k
  unfold impl_spansOf.f
  repeat' first
      | (with_reducible exact ih0 _ _ _)
      | (with_reducible exact LeO.refl _)
      | (with_reducible exact LeO.none _)
      | (with_reducible refine LeO.ite ?_ ?_)
      | (with_reducible refine LeO.bind ?_ (fun _ => ?_))
      | exact ih0 _ _ _
      | exact LeO.none _
      | refine LeO.ite ?_ ?_
      | refine LeO.bind ?_ (fun _ => ?_)
def impl_spansOf.T5 : Bool × List (List Nat × List Nat) := (true, [([], []), ([], []), ([], []), ([1, 2], [1, 2]), ([3], [3]), ([], []), ([], []), ([6], [6]), ([5, 7], [5, 7]), ([8], [8]), ([4, 9], [4, 9]), ([10], [10]), ([0, 11], [0, 11]), ([12, 12, 0, 1, 2, 3, 4, 5, 6, 7, 8, 9, 10, 11, 12], [0, 12])])
def impl_spansOf.B5 : List Nat := [0, 0, 0, 6, 14, 0, 0, 64, 224, 480, 1022, 2046, 4095, 8191]
theorem impl_spansOf.tab5 : rtab .any (opsOf Try.f102 5) = impl_spansOf.T5 := by kernel_rfl
theorem impl_spansOf.bits5 : waitsOk impl_spansOf.T5.2 impl_spansOf.B5 = true := by kernel_rfl
set_option maxHeartbeats 8000000 in
set_option maxRecDepth 100000 in
theorem impl_spansOf.calls (k : Nat) (A0 : Option Addr) (c0 : Nat) (l0 : List Int) (r : List (S92)) (w : World) (hr0 : Kd.C (Kd.int .i64) w A0 l0.length l0) (hc0 : l0.length ≤ c0) (h : impl_spansOf.f k l0 = some r) :
    Calls Try.prog 102 #[.slice A0 l0.length c0] w fun e w' => ∃ v0_ : Value, e = .returned (v0_) ∧ Kd.R k92 92 w' w.heap.size (fun _ => True) v0_ r ∧ Below w.heap.size w w' := by
  have hu92 := Try.underlying92
  have HR0 := Aside0.mk hr0
  have HC0 := Aside0.mk hc0
  clear hr0 hc0
  have HB := Aside0.mk (Below.refl w.heap.size w)
  have H : (impl_spansOf.l0 k l0 (([] : List (S92))) 0) = some r := h
  clear h
  obtain ⟨y370, hy370⟩ : ∃ y_ : List (S92), y_ = (([] : List (S92))) := ⟨_, rfl⟩
  replace H : (impl_spansOf.l0 k l0 y370 0) = some r := by first | (rw [hy370]; with_reducible exact H) | (have H2_ := (Option.bind_some _ _).symm.trans H; rw [hy370]; with_reducible exact H2_) | (have H2_ := (Option.bind_some _ _).symm.trans H; with_reducible exact H2_) | with_reducible exact H | (rw [hy370]; exact H) | exact H
  have Ny370 := Aside0.mk hy370
  clear hy370
  have H' := Aside0.mk H
  clear H
  go_enter Try.func102, Try.ntmps102
  go_wp2_with (first | ((with_reducible refine gate_dst (N := 5) rfl ?_); refine Kd.R_lit k92 _ 92 ?hg (N := 5) ?hd (xs := ([] : List (S92))) (inner := []) (ok := fun _ => True) (okp := fun _ => True) ?hr ?hp (fun _ hk => hk) trivial (Below.refl _ _) (Nat.le_refl _) (by simp) ?_; (case hd => rfl); (case hg => rfl); (case hr => first | (go_simp; done) | (go_simp; rfl)); (case hp => exact (Reps.none _ _)); intro v371 w2 ho3 hb hg_ hnew_; clear hg_ hnew_; (first | rw [← Ny370.out] at ho3 | (simp only [Int.reduceToNat] at ho3; rw [← Ny370.out] at ho3)); have n0_ := Aside0.mk (Kd.R_lower ho3 (below_size (by repeat (first | (with_reducible first | exact HB.out | apply below_alloc | apply pw_below_drewN | apply below_drew1) | exact HB.out | exact HBq_.out | exact Below.refl _ _)))); have n1_ := Aside0.mk (below_step (by repeat (first | (with_reducible first | exact HB.out | apply below_alloc | apply pw_below_drewN | apply below_drew1) | exact HB.out | exact HBq_.out | exact Below.refl _ _)) hb); clear HB; have HO372 := n0_; have HB := n1_; clear n0_ n1_; clear hb ho3))
  go_loopg [3, 4] k (fun kq v3 v4 w' => ∃ (x3_1 : List (S92)) (x4_1 : Int), v4 = .int .i64 x4_1 ∧ Aside0 (impl_spansOf.l0 kq l0 x3_1 x4_1 = some r) ∧ Aside0 (kq ≤ k) ∧ Aside0 (Kd.R k92 92 w' w.heap.size (fun _ => True) v3 x3_1) ∧ Aside0 (Below w.heap.size w w'))
  case atStart => exact ⟨(y370), (0), (by first | rfl | (simp; done) | (simp [*]; done)), H', ⟨Nat.le_refl _⟩, ⟨by (with_reducible repeat (first | apply Kd.R_alloc | apply Kd.R_drewN | apply Kd.R_drew)); exact HO372.out⟩, ⟨by repeat (first | (with_reducible first | exact HB.out | apply below_alloc | apply pw_below_drewN | apply below_drew1) | exact HB.out | exact HBq_.out | exact Below.refl _ _)⟩⟩
  case round =>
    clear H'
    try clear c1
    try clear p2
    obtain ⟨x3_1, x4_1, rfl, HA, HK1, HO_3, HB⟩ := hrel
    cases gk with
    | zero => exact absurd HA.out (by simp [impl_spansOf.l0])
    | succ k1 =>
      have H := HA.out
      clear HA
      simp only [impl_spansOf.l0] at H
      by_cases c4 : (wrap64 (x4_1 + 1)) < (l0.length : Int)
      · rw [if_pos c4] at H
        have c4b0 : decide ((wrap64 (x4_1 + 1)) < (l0.length : Int)) = true := decide_eq_true c4
        clear c4
        by_cases c5 : 0 ≤ x4_1
        · rw [if_pos c5] at H
          have c5b0 : decide (0 ≤ x4_1) = true := decide_eq_true c5
          clear c5
          by_cases c6 : x4_1 < (l0.length : Int)
          · rw [if_pos c6] at H
            have c6b0 : decide (x4_1 < (l0.length : Int)) = true := decide_eq_true c6
            clear c6
            obtain ⟨ji7, hji7⟩ : ∃ j_ : Int, (wrap64 (x4_1 + 1)) = j_ := ⟨_, rfl⟩
            replace H : (if 0 ≤ (ji7) then (if x3_1.length < 8796093022208 then (impl_spansOf.l0 k1 l0 (x3_1 ++ [(⟨rd l0 x4_1, rd l0 (ji7)⟩ : S92)]) (wrap64 (x4_1 + 2))) else (none)) else (none)) = some r := by first | (rw [hji7] at H; exact H) | (simp only [hji7] at H ⊢; exact H)
            (try rw [hji7] at c4b0)
            have hji7w : (IntKind.i64.wrap (x4_1 + 1)) = ji7 := (i64_w _).trans hji7
            by_cases c8 : 0 ≤ (ji7)
            · rw [if_pos c8] at H
              have c8b0 : decide (0 ≤ (ji7)) = true := decide_eq_true c8
              clear c8
              by_cases c9 : x3_1.length < 8796093022208
              · rw [if_pos c9] at H
                have LMc9 := Aside0.mk c9
                clear c9
                obtain ⟨y375, hy375⟩ : ∃ y_ : List (S92), y_ = (x3_1 ++ [(⟨rd l0 x4_1, rd l0 (ji7)⟩ : S92)]) := ⟨_, rfl⟩
                replace H : (impl_spansOf.l0 k1 l0 y375 (wrap64 (x4_1 + 2))) = some r := by first | (rw [hy375]; with_reducible exact H) | (have H2_ := (Option.bind_some _ _).symm.trans H; rw [hy375]; with_reducible exact H2_) | (have H2_ := (Option.bind_some _ _).symm.trans H; with_reducible exact H2_) | with_reducible exact H | (rw [hy375]; exact H) | exact H
                have Ny375 := Aside0.mk hy375
                clear hy375
                have H' := Aside0.mk H
                clear H
                try go_wp2
                have n0_ := Aside0.mk (Kd.R_drew HO_3.out)
                have HBq_ := Aside0.mk HB.out
                have n1_ := Aside0.mk (below_drew1 HB.out)
                clear HO_3
                clear HB
                have HO_3 := n0_
                have HB := n1_
                clear n0_ n1_
                have p373 : 0 ≤ (x4_1 : Int) := of_decide_eq_true (by first | (with_reducible assumption) | assumption)
                have q373 : x4_1 < (l0.length : Int) := of_decide_eq_true (by first | (with_reducible assumption) | assumption)
                obtain ⟨ad373, e373, hx373_0⟩ := Kd.at_int HR0.out x4_1 p373 q373
                have hw373_0 := hx373_0
                cases e373
                replace hx373_0 := (HB.out.cell (World.block_lt_of_cell? w _ hx373_0)).trans hx373_0
                replace p373 := eq_true p373
                replace q373 := eq_true q373
                have p374 : 0 ≤ ((ji7) : Int) := of_decide_eq_true (by first | (with_reducible assumption) | assumption)
                have q374 : (ji7) < (l0.length : Int) := of_decide_eq_true (by first | (with_reducible assumption) | assumption)
                obtain ⟨ad374, e374, hx374_0⟩ := Kd.at_int HR0.out (ji7) p374 q374
                have hw374_0 := hx374_0
                obtain rfl : ad373 = ad374 := (by injection e374)
                replace hx374_0 := (HB.out.cell (World.block_lt_of_cell? w _ hx374_0)).trans hx374_0
                replace p374 := eq_true p374
                replace q374 := eq_true q374
                refine start_ (n := 14) (S := fun w' => w'.cell? (ad373.add (x4_1).toNat) = some (.int .i64 (rd l0 x4_1)) ∧ w'.cell? (ad373.add ((ji7)).toNat) = some (.int .i64 (rd l0 (ji7)))) (ds := []) #[false, false, false, false, false, false, false, false, false, false, false, false, false, false] (by kernel_rfl) rfl rfl ⟨((HB.out.cell (World.block_lt_of_cell? w _ hw373_0)).trans hw373_0), ((HB.out.cell (World.block_lt_of_cell? w _ hw374_0)).trans hw374_0)⟩ (fun hHeld => ?_); refine with_tabW impl_spansOf.tab5 impl_spansOf.bits5 (fun HT_ HW_ => ?_)
                generalize wr.drew = w10 at HO_3 HB hx373_0 hx374_0 hHeld ⊢
                refine pure_ (i := 0) (N := some 13) (v := ?_) (a' := ?_) #[true, false, false, false, false, false, false, false, false, false, false, false, false, false] rfl rfl (any_of HT_.out (by kernel_rfl)) (fun _ _ _ h => h) (Or.inl ⟨by rfl, ?_⟩) ?_ ?_
                rotate_left
                · intro w'
                  go_simp
                  with_reducible rfl
                rotate_left
                · simp only [Act.put, List.setIfInBounds_toArray, List.set_cons_zero, List.set_cons_succ, i64_w, i32_w]
                  rfl
                refine pure_ (i := 1) (N := some 14) (v := ?_) (a' := ?_) #[true, true, false, false, false, false, false, false, false, false, false, false, false, false] rfl rfl (any_of HT_.out (by kernel_rfl)) (fun _ _ _ h => h) (Or.inl ⟨by rfl, ?_⟩) ?_ ?_
                rotate_left
                · intro w'
                  go_simp
                  with_reducible rfl
                rotate_left
                · simp only [Act.put, List.setIfInBounds_toArray, List.set_cons_zero, List.set_cons_succ, i64_w, i32_w]
                  rfl
                refine pure_ (i := 2) (N := some 15) (v := ?_) (a' := ?_) #[true, true, true, false, false, false, false, false, false, false, false, false, false, false] rfl rfl (any_of HT_.out (by kernel_rfl)) (fun _ _ _ h => h) (Or.inl ⟨by rfl, ?_⟩) ?_ ?_
                rotate_left
                · intro w'
                  go_simp
                  with_reducible rfl
                rotate_left
                · simp only [Act.put, List.setIfInBounds_toArray, List.set_cons_zero, List.set_cons_succ, i64_w, i32_w]
                  rfl
                refine pure_ (i := 3) (N := some 16) (v := ?_) (a' := ?_) #[true, true, true, true, false, false, false, false, false, false, false, false, false, false] rfl rfl (any_of HT_.out (by kernel_rfl)) (fun _ _ _ h => h) (Or.inl ⟨by rfl, ?_⟩) ?_ ?_
                rotate_left
                · intro w'
                  go_simp
                  with_reducible rfl
                rotate_left
                · simp only [Act.put, List.setIfInBounds_toArray, List.set_cons_zero, List.set_cons_succ, i64_w, i32_w]
                  rfl
                refine pure_ (i := 5) (N := some 18) (v := ?_) (a' := ?_) #[true, true, true, true, false, true, false, false, false, false, false, false, false, false] rfl rfl (any_of HT_.out (by kernel_rfl)) (fun _ _ _ h => h) (Or.inl ⟨by rfl, ?_⟩) ?_ ?_
                rotate_left
                · intro w'
                  go_simp
                  with_reducible rfl
                rotate_left
                · simp only [Act.put, List.setIfInBounds_toArray, List.set_cons_zero, List.set_cons_succ, i64_w, i32_w]
                  rfl
                refine pure_ (i := 6) (N := some 19) (v := ?_) (a' := ?_) #[true, true, true, true, false, true, true, false, false, false, false, false, false, false] rfl rfl (any_of HT_.out (by kernel_rfl)) (fun _ _ _ h => h) (Or.inl ⟨by rfl, ?_⟩) ?_ ?_
                rotate_left
                · intro w'
                  go_simp
                  with_reducible rfl
                rotate_left
                · simp only [Act.put, List.setIfInBounds_toArray, List.set_cons_zero, List.set_cons_succ, i64_w, i32_w]
                  rfl
                refine pure_ (i := 7) (N := some 20) (v := ?_) (a' := ?_) #[true, true, true, true, false, true, true, true, false, false, false, false, false, false] rfl rfl (any_of HT_.out (by kernel_rfl)) (fun _ _ _ h => h) (Or.inl ⟨by rfl, ?_⟩) ?_ ?_
                rotate_left
                · intro w'
                  go_simp
                  with_reducible rfl
                rotate_left
                · simp only [Act.put, List.setIfInBounds_toArray, List.set_cons_zero, List.set_cons_succ, i64_w, i32_w]
                  rfl
                refine pure_ (i := 8) (N := some 21) (v := ?_) (a' := ?_) #[true, true, true, true, false, true, true, true, true, false, false, false, false, false] rfl rfl (any_of HT_.out (by kernel_rfl)) (fun _ _ _ h => h) (Or.inl ⟨by rfl, ?_⟩) ?_ ?_
                rotate_left
                · intro w'
                  go_simp
                  with_reducible rfl
                rotate_left
                · simp only [Act.put, List.setIfInBounds_toArray, List.set_cons_zero, List.set_cons_succ, i64_w, i32_w]
                  rfl
                refine take_ (i := 4) (N := some 17) (v := ?_) (a' := ?_) #[true, true, true, true, true, true, true, true, true, false, false, false, false, false] rfl rfl (take_ofW HT_.out HW_.out (by kernel_rfl)) (fun _ _ _ h => h) (Or.inl ⟨by rfl, ?_⟩) hHeld ?_ ?_
                rotate_left
                · rintro w' ⟨s0, s1⟩
                  go_simp
                  with_reducible rfl
                rotate_left
                · simp only [Act.put, List.setIfInBounds_toArray, List.set_cons_zero, List.set_cons_succ, i64_w, i32_w]
                  rfl
                refine take_ (i := 9) (N := some 22) (v := ?_) (a' := ?_) #[true, true, true, true, true, true, true, true, true, true, false, false, false, false] rfl rfl (take_ofW HT_.out HW_.out (by kernel_rfl)) (fun _ _ _ h => h) (Or.inl ⟨by rfl, ?_⟩) hHeld ?_ ?_
                rotate_left
                · rintro w' ⟨s0, s1⟩
                  go_simp
                  with_reducible rfl
                rotate_left
                · simp only [Act.put, List.setIfInBounds_toArray, List.set_cons_zero, List.set_cons_succ, i64_w, i32_w]
                  rfl
                refine pure_ (i := 10) (N := some 23) (v := ?_) (a' := ?_) #[true, true, true, true, true, true, true, true, true, true, true, false, false, false] rfl rfl (any_of HT_.out (by kernel_rfl)) (fun _ _ _ h => h) (Or.inl ⟨by rfl, ?_⟩) ?_ ?_
                rotate_left
                · intro w'
                  go_simp
                  with_reducible rfl
                rotate_left
                · simp only [Act.put, List.setIfInBounds_toArray, List.set_cons_zero, List.set_cons_succ, i64_w, i32_w]
                  rfl
                refine one_ (i := 11) (N := some 24) #[true, true, true, true, true, true, true, true, true, true, true, true, false, false] rfl rfl (one_of HT_.out (by kernel_rfl)) (by decide) (fun K hK => ?_)
                refine value_ (w1 := ?_) (v := ?_) (by rfl) rfl ?_ ?_
                rotate_left 2
                · go_simp
                  constructor
                  · rfl
                  · rfl
                refine hK.out _ _ ⟨(World.cell?_alloc_lt _ _ _ (World.block_lt_of_cell? _ _ (((HB.out.cell (World.block_lt_of_cell? w _ hw373_0)).trans hw373_0)))).trans (((HB.out.cell (World.block_lt_of_cell? w _ hw373_0)).trans hw373_0)), (World.cell?_alloc_lt _ _ _ (World.block_lt_of_cell? _ _ (((HB.out.cell (World.block_lt_of_cell? w _ hw374_0)).trans hw374_0)))).trans (((HB.out.cell (World.block_lt_of_cell? w _ hw374_0)).trans hw374_0))⟩ (fun hHeld => ?_)
                clear hK K
                refine norm_ (a' := ?_) ?_ ?_
                rotate_left
                · show Act.put _ (some 24) _ = _
                  simp only [Act.put, List.setIfInBounds_toArray, List.set_cons_zero, List.set_cons_succ, i64_w, i32_w]
                  rfl
                refine one_ (i := 12) (N := some 25) #[true, true, true, true, true, true, true, true, true, true, true, true, true, false] rfl rfl (one_of HT_.out (by kernel_rfl)) (by decide) (fun K hK => ?_)
                refine Kd.R_append_step k92 (w0 := w) w.heap.size (by rfl) (.tmp 13) (.tmp 24) 89 92 (.agg #[(.int .i64 0), (.int .i64 0)]) 16 rfl Try.underlying89 info92 rfl (by decide) (by omega) u3 x3_1 (⟨rd l0 x4_1, rd l0 (ji7)⟩ : S92) [.int .i64 (rd l0 x4_1), .int .i64 (rd l0 (ji7))] (fun _ => True) (fun _ => False) rfl rfl ?aP (fun _ hk => hk.elim) ?aF ?aO ?aB ?aS ?aL ?_
                (case aP => exact k92_mkM _ _ _ (⟨rd l0 x4_1, rd l0 (ji7)⟩ : S92))
                (case aB => exact (by repeat (first | (with_reducible first | exact HB.out | apply below_alloc | apply pw_below_drewN | apply below_drew1) | exact HB.out | exact HBq_.out | exact Below.refl _ _)))
                (case aF => exact (fun _ _ => trivial))
                (case aO => exact (by (with_reducible repeat (first | apply Kd.R_alloc | apply Kd.R_drewN | apply Kd.R_drew)); exact HO_3.out))
                (case aS => exact (below_size (by repeat (first | (with_reducible first | exact HB.out | apply below_alloc | apply pw_below_drewN | apply below_drew1) | exact HB.out | exact HBq_.out | exact Below.refl _ _))))
                (case aL => have := LMc9.out; omega)
                intro v376 w11 ho hb hg hat
                rw [← Ny375.out] at ho
                have n0_ := Aside0.mk (hb)
                have n1_ := Aside0.mk (ho)
                clear HB
                clear HO_3
                have HB := n0_
                have HO377 := n1_
                clear n0_ n1_
                clear ho hb hg hat
                refine hK.out _ _ ⟨((HB.out.cell (World.block_lt_of_cell? w _ hw373_0)).trans hw373_0), ((HB.out.cell (World.block_lt_of_cell? w _ hw374_0)).trans hw374_0)⟩ (fun hHeld => ?_)
                clear hK K
                refine norm_ (a' := ?_) ?_ ?_
                rotate_left
                · show Act.put _ (some 25) _ = _
                  simp only [Act.put, List.setIfInBounds_toArray, List.set_cons_zero, List.set_cons_succ, i64_w, i32_w]
                  rfl
                refine pure_ (i := 13) (N := some 3) (v := ?_) (a' := ?_) #[true, true, true, true, true, true, true, true, true, true, true, true, true, true] rfl rfl (any_of HT_.out (by kernel_rfl)) (fun _ _ _ h => h) (Or.inl ⟨by rfl, ?_⟩) ?_ ?_
                rotate_left
                · intro w'
                  go_simp
                  with_reducible rfl
                rotate_left
                · simp only [Act.put, List.setIfInBounds_toArray, List.set_cons_zero, List.set_cons_succ, i64_w, i32_w]
                  rfl
                refine done_ (done_of HT_.out (by kernel_rfl)) ?_
                try go_wp2
                go_roundg k1
                case measure => have := HK1.out; omega
                case rel => exact ⟨(y375), (wrap64 (x4_1 + 2)), (by first | rfl | (simp; done) | (simp [*]; done)), H', ⟨by have := HK1.out; omega⟩, ⟨by (with_reducible repeat (first | apply Kd.R_alloc | apply Kd.R_drewN | apply Kd.R_drew)); exact HO377.out⟩, ⟨by repeat (first | (with_reducible first | exact HB.out | apply below_alloc | apply pw_below_drewN | apply below_drew1) | exact HB.out | exact HBq_.out | exact Below.refl _ _)⟩⟩
              · rw [if_neg c9] at H
                exact absurd H (by simp)
            · rw [if_neg c8] at H
              exact absurd H (by simp)
          · rw [if_neg c6] at H
            exact absurd H (by simp)
        · rw [if_neg c5] at H
          exact absurd H (by simp)
      · rw [if_neg c4] at H
        have c4b0 : decide ((wrap64 (x4_1 + 1)) < (l0.length : Int)) = false := decide_eq_false c4
        clear c4
        obtain rfl := Option.some.inj H
        go_wp2
        go_ret
        exact ⟨_, by first | rfl | (simp [errW_none, errW_some] <;> rfl) | (simp [*, errW_none, errW_some] <;> rfl), by (with_reducible repeat (first | apply Kd.R_alloc | apply Kd.R_drewN | apply Kd.R_drew)); exact HO_3.out, by repeat (first | (with_reducible first | exact HB.out | apply below_alloc | apply pw_below_drewN | apply below_drew1) | exact HB.out | exact HBq_.out | exact Below.refl _ _)⟩

end Go.Proofs.Ytlmpeaelpchokaa.HFnExactReText
