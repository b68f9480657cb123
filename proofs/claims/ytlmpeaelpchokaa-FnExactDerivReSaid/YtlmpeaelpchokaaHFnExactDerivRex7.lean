/- Written by wip/pr.py of this session, for the law FnExactDerivRe: Lean functions with the answers of the program's, and the proofs of that; where the kit's print has no word, by hand. -/
import Derived.Test.YtlmpeaelpchokaaHFnExactDerivRex0
import Derived.Test.YtlmpeaelpchokaaHFnExactDerivRex2
import Derived.Test.YtlmpeaelpchokaaHFnExactDerivRex3
import Derived.Test.YtlmpeaelpchokaaHFnExactDerivRex4
import Derived.Test.YtlmpeaelpchokaaHFnExactDerivRex6
namespace Go.Proofs.Ytlmpeaelpchokaa.HFnExactDerivRe
set_option maxHeartbeats 8000000
set_option maxRecDepth 100000
open Go.RowKit Go.Proofs.YtlmpeaelpchokaaW.PrintWords Go.Proofs.YtlmpeaelpchokaaW.PrintLast Go.Proofs.YtlmpeaelpchokaaW.PrintMore

set_option linter.unusedVariables false
set_option linter.unusedSimpArgs false

def spec_l5Deriv.f : Nat → List (S49) → Int → Int → Option ((List (S49)))
 | 0, _, _, _ => none
 | k + 1, l0, a1, a2 => if 0 ≤ a1 then (if a1 < (l0.length : Int) then (if ((rd_T49 l0 a1).f0) = 1 then ((spec_l5None.f).bind fun t257 => (some t257)) else (if ((rd_T49 l0 a1).f0) = 2 then ((spec_l4In.f k ((rd_T49 l0 a1).f1) a2).bind fun t260 => (if t260 = true then (some (([(⟨1, ([] : List Int)⟩ : S49)] : List (S49)))) else ((spec_l5None.f).bind fun t264 => (some t264)))) else (if ((rd_T49 l0 a1).f0) = 7 then ((spec_l5Deriv.f k l0 (wrap64 (a1 - 1)) a2).bind fun t267 => ((some (([(⟨7, ([] : List Int)⟩ : S49)] : List (S49)) : List (S49))).bind fun y270 => (if t267.length + y270.length < 4398046511104 then (some (t267 ++ y270)) else (none)))) else (if ((rd_T49 l0 a1).f0) = 6 then ((spec_l5Deriv.f k l0 (wrap64 (a1 - 1)) a2).bind fun t276 => ((spec_l5Part.f k l0 a1).bind fun t279 => (if t276.length + t279.length < 4398046511104 then ((some (t276 ++ t279 : List (S49))).bind fun y282 => ((some (([(⟨3, ([] : List Int)⟩ : S49)] : List (S49)) : List (S49))).bind fun y285 => (if y282.length + y285.length < 4398046511104 then (some (y282 ++ y285)) else (none)))) else (none)))) else ((spec_l5First.f k l0 a1).bind fun t291 => ((spec_l5Deriv.f k l0 t291 a2).bind fun t292 => (if ((rd_T49 l0 a1).f0) = 3 then ((spec_l5Part.f k l0 (wrap64 (a1 - 1))).bind fun t307 => (if t292.length + t307.length < 4398046511104 then ((some (t292 ++ t307 : List (S49))).bind fun y310 => ((some (([(⟨3, ([] : List Int)⟩ : S49)] : List (S49)) : List (S49))).bind fun y313 => (if y310.length + y313.length < 4398046511104 then ((some (y310 ++ y313 : List (S49))).bind fun y316 => ((spec_l5Part.f k l0 t291).bind fun t319 => ((spec_l5Matches.f k t319 ([] : List Int)).bind fun t322 => (if t322 = true then ((spec_l5Deriv.f k l0 (wrap64 (a1 - 1)) a2).bind fun t323 => (if y316.length + t323.length < 4398046511104 then ((some (y316 ++ t323 : List (S49))).bind fun y326 => ((some (([(⟨4, ([] : List Int)⟩ : S49)] : List (S49)) : List (S49))).bind fun y329 => (if y326.length + y329.length < 4398046511104 then (some (y326 ++ y329)) else (none)))) else (none))) else (some y316))))) else (none)))) else (none))) else ((spec_l5Deriv.f k l0 (wrap64 (a1 - 1)) a2).bind fun t295 => (if t292.length + t295.length < 4398046511104 then ((some (t292 ++ t295 : List (S49))).bind fun y298 => ((some (([(⟨(rd_T49 l0 a1).f0, ([] : List Int)⟩ : S49)] : List (S49)) : List (S49))).bind fun y301 => (if y298.length + y301.length < 4398046511104 then (some (y298 ++ y301)) else (none)))) else (none)))))))))) else (none)) else (none)
def spec_l5Deriv.T17 : Bool × List (List Nat × List Nat) := (true, [([], []), ([], []), ([], []), ([2], [2]), ([], []), ([1, 3, 4], [1, 3, 4]), ([0, 5, 5], [0, 5]), ([], []), ([7], [7]), ([8], [8]), ([9], [9]), ([6, 10, 6], [6, 10]), ([11, 11, 0, 1, 2, 3, 4, 5, 6, 7, 8, 9, 10, 11], [11])])
def spec_l5Deriv.B17 : List Nat := [0, 0, 0, 4, 0, 30, 63, 0, 128, 384, 896, 2047, 4095]
theorem spec_l5Deriv.tab17 : rtab .any (opsOf Try.f74 17) = spec_l5Deriv.T17 := by kernel_rfl
theorem spec_l5Deriv.bits17 : waitsOk spec_l5Deriv.T17.2 spec_l5Deriv.B17 = true := by kernel_rfl
theorem spec_l5Deriv.calls (k : Nat) : ∀ (A0 : Option Addr) (c0 : Nat) (l0 : List (S49)) (a1 : Int) (a2 : Int) (r : List (S49)) (w : World) (hr0 : Kd.C k49 w A0 l0.length l0) (hc0 : l0.length ≤ c0) (h : spec_l5Deriv.f k l0 a1 a2 = some r),
  Calls Try.prog 74 #[.slice A0 l0.length c0, .int .i64 a1, .int .i64 a2] w fun e w' => ∃ v0_ : Value, e = .returned (v0_) ∧ Kd.N k49 49 w' w.heap.size (fun k_ => (w.heap.size ≤ k_)) v0_ r ∧ Below w.heap.size w w' := by
 induction k using Nat.strongRecOn with
 | _ k ih =>
 intro A0 c0 l0 a1 a2 r w hr0 hc0 h
 cases k with
 | zero => exact absurd h (by simp [spec_l5Deriv.f])
 | succ k =>
 simp only [spec_l5Deriv.f] at h
 have hu49 := Try.underlying49
 have HR0 := Aside0.mk hr0
 have HC0 := Aside0.mk hc0
 clear hr0 hc0
 have HB := Aside0.mk (Below.refl w.heap.size w)
 have H : (if 0 ≤ a1 then (if a1 < (l0.length : Int) then (if ((rd_T49 l0 a1).f0) = 1 then ((spec_l5None.f).bind fun t257 => (some t257)) else (if ((rd_T49 l0 a1).f0) = 2 then ((spec_l4In.f k ((rd_T49 l0 a1).f1) a2).bind fun t260 => (if t260 = true then (some (([(⟨1, ([] : List Int)⟩ : S49)] : List (S49)))) else ((spec_l5None.f).bind fun t264 => (some t264)))) else (if ((rd_T49 l0 a1).f0) = 7 then ((spec_l5Deriv.f k l0 (wrap64 (a1 - 1)) a2).bind fun t267 => ((some (([(⟨7, ([] : List Int)⟩ : S49)] : List (S49)) : List (S49))).bind fun y270 => (if t267.length + y270.length < 4398046511104 then (some (t267 ++ y270)) else (none)))) else (if ((rd_T49 l0 a1).f0) = 6 then ((spec_l5Deriv.f k l0 (wrap64 (a1 - 1)) a2).bind fun t276 => ((spec_l5Part.f k l0 a1).bind fun t279 => (if t276.length + t279.length < 4398046511104 then ((some (t276 ++ t279 : List (S49))).bind fun y282 => ((some (([(⟨3, ([] : List Int)⟩ : S49)] : List (S49)) : List (S49))).bind fun y285 => (if y282.length + y285.length < 4398046511104 then (some (y282 ++ y285)) else (none)))) else (none)))) else ((spec_l5First.f k l0 a1).bind fun t291 => ((spec_l5Deriv.f k l0 t291 a2).bind fun t292 => (if ((rd_T49 l0 a1).f0) = 3 then ((spec_l5Part.f k l0 (wrap64 (a1 - 1))).bind fun t307 => (if t292.length + t307.length < 4398046511104 then ((some (t292 ++ t307 : List (S49))).bind fun y310 => ((some (([(⟨3, ([] : List Int)⟩ : S49)] : List (S49)) : List (S49))).bind fun y313 => (if y310.length + y313.length < 4398046511104 then ((some (y310 ++ y313 : List (S49))).bind fun y316 => ((spec_l5Part.f k l0 t291).bind fun t319 => ((spec_l5Matches.f k t319 ([] : List Int)).bind fun t322 => (if t322 = true then ((spec_l5Deriv.f k l0 (wrap64 (a1 - 1)) a2).bind fun t323 => (if y316.length + t323.length < 4398046511104 then ((some (y316 ++ t323 : List (S49))).bind fun y326 => ((some (([(⟨4, ([] : List Int)⟩ : S49)] : List (S49)) : List (S49))).bind fun y329 => (if y326.length + y329.length < 4398046511104 then (some (y326 ++ y329)) else (none)))) else (none))) else (some y316))))) else (none)))) else (none))) else ((spec_l5Deriv.f k l0 (wrap64 (a1 - 1)) a2).bind fun t295 => (if t292.length + t295.length < 4398046511104 then ((some (t292 ++ t295 : List (S49))).bind fun y298 => ((some (([(⟨(rd_T49 l0 a1).f0, ([] : List Int)⟩ : S49)] : List (S49)) : List (S49))).bind fun y301 => (if y298.length + y301.length < 4398046511104 then (some (y298 ++ y301)) else (none)))) else (none)))))))))) else (none)) else (none)) = some r := h
 clear h
 by_cases c4 : 0 ≤ a1
 ·rw [if_pos c4] at H
  have c4b0 := decide_eq_true c4
  clear c4
  by_cases c5 : a1 < (l0.length : Int)
  ·rw [if_pos c5] at H
   have c5b0 := decide_eq_true c5
   clear c5
   by_cases c6 : ((rd_T49 l0 a1).f0) = 1
   ·rw [if_pos c6] at H
    have c6b0 := q1_ c6
    have c6b1 := q2_ c6
    clear c6
    replace H := Option.bind_eq_some_iff.mp H
    obtain ⟨t257, A70, H⟩ := H
    try dsimp only at H
    have A7 := Aside0.mk A70
    clear A70
    obtain rfl := Option.some.inj H
    have p255 : 0 ≤ (a1 : Int) := of_decide_eq_true az_
    have q255 : a1 < (l0.length : Int) := of_decide_eq_true az_
    obtain ⟨ad255, A255_1, c255_1, e255, hx255_0, hx255_1, hl255_1, hi255_1⟩ := at_T49 HR0.out a1 p255 q255
    cases e255
    have HR255_1 := Aside0.mk hi255_1
    have HC255_1 := Aside0.mk hl255_1
    clear hi255_1 hl255_1
    replace p255 := eq_true p255
    replace q255 := eq_true q255
    go_enter Try.func74, Try.ntmps74
    go_wp2_with (first | ((with_reducible refine gate_dst (N := 7) rfl ?_); refine box_event ?hg (N := 7) ?hd (cs := #[.int .i64 0, .slice none 0 0]) (t := 49) ?hr ?_; (case hd => rfl); (case hg => rfl); (case hr => first | (go_simp; done) | (go_simp; rfl)); intro gb256 hg w8 hbox hb; have n0_ := Aside0.mk (below_step bz_ hb); have n1_ := Aside0.mk (hbox); have n2_ := Aside0.mk ((hz_ hg : w.heap.size ≤ gb256)); have n3_ := Aside0.mk ((hz_ hg : w.heap.size ≤ gb256)); clear HB; have HB := n0_; have BK256 := n1_; have GW256 := n2_; have GE256 := n3_; clear n0_ n1_ n2_ n3_; clear hb hbox hg; have hcz9_0 : w8.cell? ⟨gb256, 0, none⟩ = some (.int .i64 0) := (blk_cell BK256.out 0).trans rfl; have hcz9_1 : w8.cell? ⟨gb256, 1, none⟩ = some (.slice none 0 0) := (blk_cell BK256.out 1).trans rfl; have hfz9_0 := blk_frozen BK256.out 0; have hfz9_1 := blk_frozen BK256.out 1) | ((with_reducible refine gate_callee (f := 106) rfl ?_); refine goesL_ (some 20) rfl rfl Try.func106 (by kernel_rfl) rfl #[] rfl mz_ ?_; (with_reducible refine (spec_l5None.calls  t257 _ A7.out).mono ?_); rintro e w10 ⟨v258, rfl, ho0, hb⟩; refine ⟨_, rfl, ?_⟩; have n0_ := Aside0.mk (Kd.N_lower (Kd.N_mono (ok' := fun k_ => (w.heap.size ≤ k_) ∧ k_ ≠ gb256) (Kd.S_N (Kd.S_bound ho0)) (fun k_ hk_ => ⟨(Nat.le_trans (below_size (bg_ GE256.out)) hk_.2.1), (Kd.freshB (g := gb256) (o := .cells #[.int .i64 ((rd_T49 l0 a1).f0), .slice A255_1 ((rd_T49 l0 a1).f1).length c255_1] 49 (0, 0)) (by (with_reducible repeat (first | refine blk_drewN ?_ _ | refine blk_drew ?_ | refine blk_alloc ?_ _)); refine blk_put (cs := #[.int .i64 ((rd_T49 l0 a1).f0), .slice none 0 0]) ?_ 1 _ rfl; (with_reducible repeat (first | refine blk_drewN ?_ _ | refine blk_drew ?_ | refine blk_alloc ?_ _)); refine blk_put (cs := #[.int .i64 0, .slice none 0 0]) ?_ 0 _ rfl; (with_reducible repeat (first | refine blk_drewN ?_ _ | refine blk_drew ?_ | refine blk_alloc ?_ _)); exact BK256.out) k_ hk_.2.1)⟩)) (below_size (bg_ GE256.out))); have n1_ := Aside0.mk (blk_below (g := gb256) (o := .cells #[.int .i64 ((rd_T49 l0 a1).f0), .slice A255_1 ((rd_T49 l0 a1).f1).length c255_1] 49 (0, 0)) (by (with_reducible repeat (first | refine blk_drewN ?_ _ | refine blk_drew ?_ | refine blk_alloc ?_ _)); refine blk_put (cs := #[.int .i64 ((rd_T49 l0 a1).f0), .slice none 0 0]) ?_ 1 _ rfl; (with_reducible repeat (first | refine blk_drewN ?_ _ | refine blk_drew ?_ | refine blk_alloc ?_ _)); refine blk_put (cs := #[.int .i64 0, .slice none 0 0]) ?_ 0 _ rfl; (with_reducible repeat (first | refine blk_drewN ?_ _ | refine blk_drew ?_ | refine blk_alloc ?_ _)); exact BK256.out) hb); have n2_ := Aside0.mk (below_step (bg_ GE256.out) hb); clear BK256; clear HB; have HO259 := n0_; have BK256 := n1_; have HB := n2_; clear n0_ n1_ n2_; (try clear ho0)))
    go_ret
    exact ⟨_, rr_, by (with_reducible repeat (first | apply Kd.N_alloc | apply Kd.N_drewN | apply Kd.N_drew)); exact Kd.N_mono HO259.out (fun _ hk => hk.1), bg_ GE256.out⟩
   ·rw [if_neg c6] at H
    have c6b0 := q3_ c6
    have c6b1 := q4_ c6
    by_cases c11 : ((rd_T49 l0 a1).f0) = 2
    ·rw [if_pos c11] at H
     have c11b0 := q1_ c11
     have c11b1 := q2_ c11
     clear c11
     replace H := Option.bind_eq_some_iff.mp H
     obtain ⟨t260, A120, H⟩ := H
     try dsimp only at H
     have A12 := Aside0.mk A120
     clear A120
     by_cases c13 : t260 = true
     ·subst c13
      have H1 := H
      rw [if_pos rfl] at H1
      clear H
      have H := H1
      clear H1
      obtain ⟨y261, hy261⟩ : ∃ y_ : List (S49), y_ = (([(⟨1, ([] : List Int)⟩ : S49)] : List (S49))) := ⟨_, rfl⟩
      replace H : (some y261) = some r := yz_ hy261 H
      have Ny261 := Aside0.mk hy261
      clear hy261
      obtain rfl := Option.some.inj H
      have p255 : 0 ≤ (a1 : Int) := of_decide_eq_true az_
      have q255 : a1 < (l0.length : Int) := of_decide_eq_true az_
      obtain ⟨ad255, A255_1, c255_1, e255, hx255_0, hx255_1, hl255_1, hi255_1⟩ := at_T49 HR0.out a1 p255 q255
      cases e255
      have HR255_1 := Aside0.mk hi255_1
      have HC255_1 := Aside0.mk hl255_1
      clear hi255_1 hl255_1
      replace p255 := eq_true p255
      replace q255 := eq_true q255
      go_enter Try.func74, Try.ntmps74
      go_wp2_with (first | ((with_reducible refine gate_dst (N := 7) rfl ?_); refine box_event ?hg (N := 7) ?hd (cs := #[.int .i64 0, .slice none 0 0]) (t := 49) ?hr ?_; (case hd => rfl); (case hg => rfl); (case hr => first | (go_simp; done) | (go_simp; rfl)); intro gb256 hg w14 hbox hb; have n0_ := Aside0.mk (below_step bz_ hb); have n1_ := Aside0.mk (hbox); have n2_ := Aside0.mk ((hz_ hg : w.heap.size ≤ gb256)); have n3_ := Aside0.mk ((hz_ hg : w.heap.size ≤ gb256)); clear HB; have HB := n0_; have BK256 := n1_; have GW256 := n2_; have GE256 := n3_; clear n0_ n1_ n2_ n3_; clear hb hbox hg; have hcz15_0 : w14.cell? ⟨gb256, 0, none⟩ = some (.int .i64 0) := (blk_cell BK256.out 0).trans rfl; have hcz15_1 : w14.cell? ⟨gb256, 1, none⟩ = some (.slice none 0 0) := (blk_cell BK256.out 1).trans rfl; have hfz15_0 := blk_frozen BK256.out 0; have hfz15_1 := blk_frozen BK256.out 1) | ((with_reducible refine gate_callee (f := 100) rfl ?_); refine goesL_ (some 26) rfl rfl Try.func100 (by kernel_rfl) rfl #[.slice A255_1 ((rd_T49 l0 a1).f1).length c255_1, .int .i64 a2] rfl mz_ ?_; (with_reducible refine (spec_l4In.calls k _ _ ((rd_T49 l0 a1).f1) a2 true _ ?side1 ?side2 A12.out).mono ?_); (case side1 => exact Kd.C_below HR255_1.out (bg_ GE256.out)); (case side2 => exact HC255_1.out); rintro e w' ⟨rfl, ⟨nd, rfl⟩⟩; refine ⟨_, rfl, ?_⟩) | ((with_reducible refine gate_dst (N := 28) rfl ?_); refine Kd.N_lit k49 _ 49 ?hg (N' := 28) ?hd (xs := ([(⟨1, ([] : List Int)⟩ : S49)] : List (S49))) (inner := [.int .i64 1, .slice none 0 0]) (ok := (fun k_ => (w.heap.size ≤ k_) ∧ k_ ≠ gb256)) (okp := (fun k_ => (w.heap.size ≤ k_) ∧ k_ ≠ gb256)) ?hr ?hp (fun _ hk => hk) (by exact ((show ∀ k_, (_ : World).heap.size ≤ k_ → (fun k_ => (w.heap.size ≤ k_) ∧ k_ ≠ gb256) k_ from fun k_ hk => ⟨(Nat.le_trans (below_size (bg_ GE256.out)) hk), Kd.freshB (g := gb256) (o := .cells #[.int .i64 ((rd_T49 l0 a1).f0), .slice A255_1 ((rd_T49 l0 a1).f1).length c255_1] 49 (0, 0)) (by (with_reducible repeat (first | refine blk_drewN ?_ _ | refine blk_drew ?_ | refine blk_alloc ?_ _)); refine blk_put (cs := #[.int .i64 ((rd_T49 l0 a1).f0), .slice none 0 0]) ?_ 1 _ rfl; (with_reducible repeat (first | refine blk_drewN ?_ _ | refine blk_drew ?_ | refine blk_alloc ?_ _)); refine blk_put (cs := #[.int .i64 0, .slice none 0 0]) ?_ 0 _ rfl; (with_reducible repeat (first | refine blk_drewN ?_ _ | refine blk_drew ?_ | refine blk_alloc ?_ _)); exact BK256.out) k_ hk⟩) _ (Nat.le_refl _))) (Below.refl _ _) (Nat.le_refl _) (by simp) ?_; (case hd => rfl); (case hg => rfl); (case hr => first | (go_simp; done) | (go_simp; rfl)); (case hp => exact (Reps.c2 (show Kd.FK k49 _ _ (⟨1, ([] : List Int)⟩ : S49) [.int .i64 1, .slice none 0 0] from (k49_mkF _ _ (⟨1, ([] : List Int)⟩ : S49) (Nat.le_refl _) (Kd.F_nil _ _ _))) (Reps.none _ _))); intro v262 w16 ho17 hb hg_ hnew_; clear hg_ hnew_; (first | rw [← Ny261.out] at ho17 | (simp only [Int.reduceToNat] at ho17; rw [← Ny261.out] at ho17)); have n0_ := Aside0.mk (Kd.N_lower ho17 (below_size (bg_ GE256.out))); have n1_ := Aside0.mk (blk_below (g := gb256) (o := .cells #[.int .i64 ((rd_T49 l0 a1).f0), .slice A255_1 ((rd_T49 l0 a1).f1).length c255_1] 49 (0, 0)) (by (with_reducible repeat (first | refine blk_drewN ?_ _ | refine blk_drew ?_ | refine blk_alloc ?_ _)); refine blk_put (cs := #[.int .i64 ((rd_T49 l0 a1).f0), .slice none 0 0]) ?_ 1 _ rfl; (with_reducible repeat (first | refine blk_drewN ?_ _ | refine blk_drew ?_ | refine blk_alloc ?_ _)); refine blk_put (cs := #[.int .i64 0, .slice none 0 0]) ?_ 0 _ rfl; (with_reducible repeat (first | refine blk_drewN ?_ _ | refine blk_drew ?_ | refine blk_alloc ?_ _)); exact BK256.out) hb); have n2_ := Aside0.mk (below_step (bg_ GE256.out) hb); clear BK256; clear HB; have HO263 := n0_; have BK256 := n1_; have HB := n2_; clear n0_ n1_ n2_; clear hb ho17))
      go_ret
      exact ⟨_, rr_, by (with_reducible repeat (first | apply Kd.N_alloc | apply Kd.N_drewN | apply Kd.N_drew)); exact Kd.N_mono HO263.out (fun _ hk => hk.1), bg_ GE256.out⟩
     ·replace c13 := Bool.eq_false_iff.mpr c13
      subst c13
      have H1 := H
      rw [if_neg (show ¬ (false = true) by decide)] at H1
      clear H
      have H := H1
      clear H1
      replace H := Option.bind_eq_some_iff.mp H
      obtain ⟨t264, A180, H⟩ := H
      try dsimp only at H
      have A18 := Aside0.mk A180
      clear A180
      obtain rfl := Option.some.inj H
      have p255 : 0 ≤ (a1 : Int) := of_decide_eq_true az_
      have q255 : a1 < (l0.length : Int) := of_decide_eq_true az_
      obtain ⟨ad255, A255_1, c255_1, e255, hx255_0, hx255_1, hl255_1, hi255_1⟩ := at_T49 HR0.out a1 p255 q255
      cases e255
      have HR255_1 := Aside0.mk hi255_1
      have HC255_1 := Aside0.mk hl255_1
      clear hi255_1 hl255_1
      replace p255 := eq_true p255
      replace q255 := eq_true q255
      go_enter Try.func74, Try.ntmps74
      go_wp2_with (first | ((with_reducible refine gate_dst (N := 7) rfl ?_); refine box_event ?hg (N := 7) ?hd (cs := #[.int .i64 0, .slice none 0 0]) (t := 49) ?hr ?_; (case hd => rfl); (case hg => rfl); (case hr => first | (go_simp; done) | (go_simp; rfl)); intro gb256 hg w19 hbox hb; have n0_ := Aside0.mk (below_step bz_ hb); have n1_ := Aside0.mk (hbox); have n2_ := Aside0.mk ((hz_ hg : w.heap.size ≤ gb256)); have n3_ := Aside0.mk ((hz_ hg : w.heap.size ≤ gb256)); clear HB; have HB := n0_; have BK256 := n1_; have GW256 := n2_; have GE256 := n3_; clear n0_ n1_ n2_ n3_; clear hb hbox hg; have hcz20_0 : w19.cell? ⟨gb256, 0, none⟩ = some (.int .i64 0) := (blk_cell BK256.out 0).trans rfl; have hcz20_1 : w19.cell? ⟨gb256, 1, none⟩ = some (.slice none 0 0) := (blk_cell BK256.out 1).trans rfl; have hfz20_0 := blk_frozen BK256.out 0; have hfz20_1 := blk_frozen BK256.out 1) | ((with_reducible refine gate_callee (f := 100) rfl ?_); refine goesL_ (some 26) rfl rfl Try.func100 (by kernel_rfl) rfl #[.slice A255_1 ((rd_T49 l0 a1).f1).length c255_1, .int .i64 a2] rfl mz_ ?_; (with_reducible refine (spec_l4In.calls k _ _ ((rd_T49 l0 a1).f1) a2 false _ ?side1 ?side2 A12.out).mono ?_); (case side1 => exact Kd.C_below HR255_1.out (bg_ GE256.out)); (case side2 => exact HC255_1.out); rintro e w' ⟨rfl, ⟨nd, rfl⟩⟩; refine ⟨_, rfl, ?_⟩) | ((with_reducible refine gate_callee (f := 106) rfl ?_); refine goesL_ (some 29) rfl rfl Try.func106 (by kernel_rfl) rfl #[] rfl mz_ ?_; (with_reducible refine (spec_l5None.calls  t264 _ A18.out).mono ?_); rintro e w21 ⟨v265, rfl, ho0, hb⟩; refine ⟨_, rfl, ?_⟩; have n0_ := Aside0.mk (Kd.N_lower (Kd.N_mono (ok' := fun k_ => (w.heap.size ≤ k_) ∧ k_ ≠ gb256) (Kd.S_N (Kd.S_bound ho0)) (fun k_ hk_ => ⟨(Nat.le_trans (below_size (bg_ GE256.out)) hk_.2.1), (Kd.freshB (g := gb256) (o := .cells #[.int .i64 ((rd_T49 l0 a1).f0), .slice A255_1 ((rd_T49 l0 a1).f1).length c255_1] 49 (0, 0)) (by (with_reducible repeat (first | refine blk_drewN ?_ _ | refine blk_drew ?_ | refine blk_alloc ?_ _)); refine blk_put (cs := #[.int .i64 ((rd_T49 l0 a1).f0), .slice none 0 0]) ?_ 1 _ rfl; (with_reducible repeat (first | refine blk_drewN ?_ _ | refine blk_drew ?_ | refine blk_alloc ?_ _)); refine blk_put (cs := #[.int .i64 0, .slice none 0 0]) ?_ 0 _ rfl; (with_reducible repeat (first | refine blk_drewN ?_ _ | refine blk_drew ?_ | refine blk_alloc ?_ _)); exact BK256.out) k_ hk_.2.1)⟩)) (below_size (bg_ GE256.out))); have n1_ := Aside0.mk (blk_below (g := gb256) (o := .cells #[.int .i64 ((rd_T49 l0 a1).f0), .slice A255_1 ((rd_T49 l0 a1).f1).length c255_1] 49 (0, 0)) (by (with_reducible repeat (first | refine blk_drewN ?_ _ | refine blk_drew ?_ | refine blk_alloc ?_ _)); refine blk_put (cs := #[.int .i64 ((rd_T49 l0 a1).f0), .slice none 0 0]) ?_ 1 _ rfl; (with_reducible repeat (first | refine blk_drewN ?_ _ | refine blk_drew ?_ | refine blk_alloc ?_ _)); refine blk_put (cs := #[.int .i64 0, .slice none 0 0]) ?_ 0 _ rfl; (with_reducible repeat (first | refine blk_drewN ?_ _ | refine blk_drew ?_ | refine blk_alloc ?_ _)); exact BK256.out) hb); have n2_ := Aside0.mk (below_step (bg_ GE256.out) hb); clear BK256; clear HB; have HO266 := n0_; have BK256 := n1_; have HB := n2_; clear n0_ n1_ n2_; (try clear ho0)))
      go_ret
      exact ⟨_, rr_, by (with_reducible repeat (first | apply Kd.N_alloc | apply Kd.N_drewN | apply Kd.N_drew)); exact Kd.N_mono HO266.out (fun _ hk => hk.1), bg_ GE256.out⟩
    ·rw [if_neg c11] at H
     have c11b0 := q3_ c11
     have c11b1 := q4_ c11
     by_cases c22 : ((rd_T49 l0 a1).f0) = 7
     ·rw [if_pos c22] at H
      have c22b0 := q1_ c22
      have c22b1 := q2_ c22
      clear c22
      replace H := Option.bind_eq_some_iff.mp H
      obtain ⟨t267, A230, H⟩ := H
      try dsimp only at H
      have A23 := Aside0.mk A230
      clear A230
      obtain ⟨y270, hy270⟩ : ∃ y_ : List (S49), y_ = (([(⟨7, ([] : List Int)⟩ : S49)] : List (S49))) := ⟨_, rfl⟩
      replace H : (if t267.length + y270.length < 4398046511104 then (some (t267 ++ y270)) else (none)) = some r := yz_ hy270 H
      have Ny270 := Aside0.mk hy270
      clear hy270
      by_cases c24 : t267.length + y270.length < 4398046511104
      ·rw [if_pos c24] at H
       have LMc24 := Aside0.mk c24
       clear c24
       obtain ⟨y273, hy273⟩ : ∃ y_ : List (S49), y_ = (t267 ++ y270) := ⟨_, rfl⟩
       replace H : (some y273) = some r := yz_ hy273 H
       have Ny273 := Aside0.mk hy273
       clear hy273
       obtain rfl := Option.some.inj H
       have p255 : 0 ≤ (a1 : Int) := of_decide_eq_true az_
       have q255 : a1 < (l0.length : Int) := of_decide_eq_true az_
       obtain ⟨ad255, A255_1, c255_1, e255, hx255_0, hx255_1, hl255_1, hi255_1⟩ := at_T49 HR0.out a1 p255 q255
       cases e255
       have HR255_1 := Aside0.mk hi255_1
       have HC255_1 := Aside0.mk hl255_1
       clear hi255_1 hl255_1
       replace p255 := eq_true p255
       replace q255 := eq_true q255
       go_enter Try.func74, Try.ntmps74
       go_wp2_with (first | ((with_reducible refine gate_dst (N := 7) rfl ?_); refine box_event ?hg (N := 7) ?hd (cs := #[.int .i64 0, .slice none 0 0]) (t := 49) ?hr ?_; (case hd => rfl); (case hg => rfl); (case hr => first | (go_simp; done) | (go_simp; rfl)); intro gb256 hg w25 hbox hb; have n0_ := Aside0.mk (below_step bz_ hb); have n1_ := Aside0.mk (hbox); have n2_ := Aside0.mk ((hz_ hg : w.heap.size ≤ gb256)); have n3_ := Aside0.mk ((hz_ hg : w.heap.size ≤ gb256)); clear HB; have HB := n0_; have BK256 := n1_; have GW256 := n2_; have GE256 := n3_; clear n0_ n1_ n2_ n3_; clear hb hbox hg; have hcz26_0 : w25.cell? ⟨gb256, 0, none⟩ = some (.int .i64 0) := (blk_cell BK256.out 0).trans rfl; have hcz26_1 : w25.cell? ⟨gb256, 1, none⟩ = some (.slice none 0 0) := (blk_cell BK256.out 1).trans rfl; have hfz26_0 := blk_frozen BK256.out 0; have hfz26_1 := blk_frozen BK256.out 1) | ((with_reducible refine gate_callee (f := 74) rfl ?_); refine goesL_ (some 36) rfl rfl Try.func74 (by kernel_rfl) rfl #[.slice (some ad255) l0.length c0, .int .i64 (wrap64 (a1 - 1)), .int .i64 a2] rfl mz_ ?_; (with_reducible refine (ih k (by omega) _ _ l0 (wrap64 (a1 - 1)) a2 t267 _ ?side1 ?side2 A23.out).mono ?_); (case side1 => exact Kd.C_below HR0.out (bg_ GE256.out)); (case side2 => exact HC0.out); rintro e w27 ⟨v268, rfl, ho0, hb⟩; refine ⟨_, rfl, ?_⟩; have n0_ := Aside0.mk (Kd.N_lower (Kd.N_mono (ok' := fun k_ => (w.heap.size ≤ k_) ∧ k_ ≠ gb256) ho0 (fun k_ hk_ => ⟨(Nat.le_trans (below_size (bg_ GE256.out)) hk_), (Kd.freshB (g := gb256) (o := .cells #[.int .i64 ((rd_T49 l0 a1).f0), .slice A255_1 ((rd_T49 l0 a1).f1).length c255_1] 49 (0, 0)) (by (with_reducible repeat (first | refine blk_drewN ?_ _ | refine blk_drew ?_ | refine blk_alloc ?_ _)); refine blk_put (cs := #[.int .i64 ((rd_T49 l0 a1).f0), .slice none 0 0]) ?_ 1 _ rfl; (with_reducible repeat (first | refine blk_drewN ?_ _ | refine blk_drew ?_ | refine blk_alloc ?_ _)); refine blk_put (cs := #[.int .i64 0, .slice none 0 0]) ?_ 0 _ rfl; (with_reducible repeat (first | refine blk_drewN ?_ _ | refine blk_drew ?_ | refine blk_alloc ?_ _)); exact BK256.out) k_ hk_)⟩)) (below_size (bg_ GE256.out))); have n1_ := Aside0.mk (blk_below (g := gb256) (o := .cells #[.int .i64 ((rd_T49 l0 a1).f0), .slice A255_1 ((rd_T49 l0 a1).f1).length c255_1] 49 (0, 0)) (by (with_reducible repeat (first | refine blk_drewN ?_ _ | refine blk_drew ?_ | refine blk_alloc ?_ _)); refine blk_put (cs := #[.int .i64 ((rd_T49 l0 a1).f0), .slice none 0 0]) ?_ 1 _ rfl; (with_reducible repeat (first | refine blk_drewN ?_ _ | refine blk_drew ?_ | refine blk_alloc ?_ _)); refine blk_put (cs := #[.int .i64 0, .slice none 0 0]) ?_ 0 _ rfl; (with_reducible repeat (first | refine blk_drewN ?_ _ | refine blk_drew ?_ | refine blk_alloc ?_ _)); exact BK256.out) hb); have n2_ := Aside0.mk (below_step (bg_ GE256.out) hb); clear BK256; clear HB; have HO269 := n0_; have BK256 := n1_; have HB := n2_; clear n0_ n1_ n2_; (try clear ho0)) | ((with_reducible refine gate_dst (N := 38) rfl ?_); refine Kd.N_lit k49 _ 49 ?hg (N' := 38) ?hd (xs := ([(⟨7, ([] : List Int)⟩ : S49)] : List (S49))) (inner := [.int .i64 7, .slice none 0 0]) (ok := (fun k_ => (w.heap.size ≤ k_) ∧ some k_ ≠ (v268 : Value).ownBlock ∧ k_ ≠ gb256)) (okp := (fun k_ => (w.heap.size ≤ k_) ∧ some k_ ≠ (v268 : Value).ownBlock ∧ k_ ≠ gb256)) ?hr ?hp (fun _ hk => hk) (by exact ((show ∀ k_, (_ : World).heap.size ≤ k_ → (fun k_ => (w.heap.size ≤ k_) ∧ some k_ ≠ (v268 : Value).ownBlock ∧ k_ ≠ gb256) k_ from fun k_ hk => ⟨(Nat.le_trans (below_size (bg_ GE256.out)) hk), Kd.fresh' (Kd.N_lt (nz_ HO269.out)) k_ hk, Kd.freshB (g := gb256) (o := .cells #[.int .i64 ((rd_T49 l0 a1).f0), .slice A255_1 ((rd_T49 l0 a1).f1).length c255_1] 49 (0, 0)) (kz_ BK256.out) k_ hk⟩) _ (Nat.le_refl _))) (Below.refl _ _) (Nat.le_refl _) (by simp) ?_; (case hd => rfl); (case hg => rfl); (case hr => first | (go_simp; done) | (go_simp; rfl)); (case hp => exact (Reps.c2 (show Kd.FK k49 _ _ (⟨7, ([] : List Int)⟩ : S49) [.int .i64 7, .slice none 0 0] from (k49_mkF _ _ (⟨7, ([] : List Int)⟩ : S49) (Nat.le_refl _) (Kd.F_nil _ _ _))) (Reps.none _ _))); intro v271 w28 ho29 hb hg_ hnew_; clear hg_ hnew_; (first | rw [← Ny270.out] at ho29 | (simp only [Int.reduceToNat] at ho29; rw [← Ny270.out] at ho29)); have n0_ := Aside0.mk (Kd.N_elder' (nz_ HO269.out) (kb_ ho29) hb); have n1_ := Aside0.mk (Kd.N_lower ho29 (below_size (bg_ GE256.out))); have n2_ := Aside0.mk (blk_below (g := gb256) (o := .cells #[.int .i64 ((rd_T49 l0 a1).f0), .slice A255_1 ((rd_T49 l0 a1).f1).length c255_1] 49 (0, 0)) (kz_ BK256.out) hb); have n3_ := Aside0.mk (below_step (bg_ GE256.out) hb); clear HO269; clear BK256; clear HB; have HO269 := n0_; have HO272 := n1_; have BK256 := n2_; have HB := n3_; clear n0_ n1_ n2_ n3_; clear hb ho29; obtain ⟨Ao31, co31, eo31⟩ := Kd.N_slice HO272.out; subst eo31) | ((with_reducible refine gate_builtin (b := .append) (xs := #[.tmp 36, .tmp 38]) rfl ?_); at_builtin; refine Kd.N_append_rows k49 (w0 := w) w.heap.size rfl (.tmp 36) (.tmp 38) 25 49 (.agg #[(.int .i64 0), (.slice none 0 0)]) 32 rfl Try.underlying25 info49 rfl (by decide) (by omega) v268 t267 y270 _ _ _ (fun k_ => (w.heap.size ≤ k_) ∧ k_ ≠ gb256) (fun k_ => ((fun k_ => (w.heap.size ≤ k_) ∧ k_ ≠ gb256)) k_ ∧ some k_ ≠ (v268 : Value).ownBlock) rfl rfl ?aO ?aR (fun _ hk => hk) ?aF ?aB ?aS ?aL ?_; (case aR => exact (by skip; exact Kd.N_F (Kd.N_mono (ok' := (fun k_ => ((fun k_ => (w.heap.size ≤ k_) ∧ k_ ≠ gb256)) k_ ∧ some k_ ≠ (v268 : Value).ownBlock)) (HO272.out) (fun k_ hk => ⟨⟨hk.1, hk.2.2⟩, hk.2.1⟩)))); (case aB => exact (bg_ GE256.out)); (case aF => exact (fun k_ hk => ⟨(Nat.le_trans (below_size (bg_ GE256.out)) hk), Kd.freshB (g := gb256) (o := .cells #[.int .i64 ((rd_T49 l0 a1).f0), .slice A255_1 ((rd_T49 l0 a1).f1).length c255_1] 49 (0, 0)) (kz_ BK256.out) k_ hk⟩)); (case aO => exact (by (with_reducible repeat (first | apply Kd.N_alloc | apply Kd.N_drewN | apply Kd.N_drew)); exact Kd.N_mono HO269.out (fun _ hk => ⟨hk.1.1, hk.1.2⟩))); (case aS => exact (below_size (bg_ GE256.out))); (case aL => have := LMc24.out; omega); intro v274 w30 ho hb hg hat; rw [← Ny273.out] at ho; have n0_ := Aside0.mk (blk_grown (g := gb256) (o := .cells #[.int .i64 ((rd_T49 l0 a1).f0), .slice A255_1 ((rd_T49 l0 a1).f1).length c255_1] 49 (0, 0)) (kz_ BK256.out) hg (Kd.N_away HO269.out (fun _ hk => hk.1.2))); have n1_ := Aside0.mk (Kd.N_afterv (ok := (fun k_ => (w.heap.size ≤ k_) ∧ k_ ≠ gb256)) (by (with_reducible repeat (first | apply Kd.N_alloc | apply Kd.N_drewN | apply Kd.N_drew)); exact Kd.N_mono HO272.out (fun _ hk => ⟨⟨hk.1, hk.2.2⟩, hk.2.1⟩)) hg hat); have n2_ := Aside0.mk (hb); have n3_ := Aside0.mk (ho); clear BK256; clear HO272; clear HB; clear HO269; have BK256 := n0_; have HO272 := n1_; have HB := n2_; have HO275 := n3_; clear n0_ n1_ n2_ n3_; clear ho hb hg hat))
       go_ret
       exact ⟨_, rr_, by (with_reducible repeat (first | apply Kd.N_alloc | apply Kd.N_drewN | apply Kd.N_drew)); exact Kd.N_mono HO275.out (fun _ hk => hk.1), bg_ GE256.out⟩
      ·rw [if_neg c24] at H
       exact absurd H (by simp)
     ·rw [if_neg c22] at H
      have c22b0 := q3_ c22
      have c22b1 := q4_ c22
      by_cases c32 : ((rd_T49 l0 a1).f0) = 6
      ·rw [if_pos c32] at H
       have c32b0 := q1_ c32
       have c32b1 := q2_ c32
       clear c32
       replace H := Option.bind_eq_some_iff.mp H
       obtain ⟨t276, A330, H⟩ := H
       try dsimp only at H
       have A33 := Aside0.mk A330
       clear A330
       replace H := Option.bind_eq_some_iff.mp H
       obtain ⟨t279, A340, H⟩ := H
       try dsimp only at H
       have A34 := Aside0.mk A340
       clear A340
       by_cases c35 : t276.length + t279.length < 4398046511104
       ·rw [if_pos c35] at H
        have LMc35 := Aside0.mk c35
        clear c35
        obtain ⟨y282, hy282⟩ : ∃ y_ : List (S49), y_ = (t276 ++ t279) := ⟨_, rfl⟩
        replace H : ((some (([(⟨3, ([] : List Int)⟩ : S49)] : List (S49)) : List (S49))).bind fun y285 => (if y282.length + y285.length < 4398046511104 then (some (y282 ++ y285)) else (none))) = some r := yz_ hy282 H
        have Ny282 := Aside0.mk hy282
        clear hy282
        obtain ⟨y285, hy285⟩ : ∃ y_ : List (S49), y_ = (([(⟨3, ([] : List Int)⟩ : S49)] : List (S49))) := ⟨_, rfl⟩
        replace H : (if y282.length + y285.length < 4398046511104 then (some (y282 ++ y285)) else (none)) = some r := yz_ hy285 H
        have Ny285 := Aside0.mk hy285
        clear hy285
        by_cases c36 : y282.length + y285.length < 4398046511104
        ·rw [if_pos c36] at H
         have LMc36 := Aside0.mk c36
         clear c36
         obtain ⟨y288, hy288⟩ : ∃ y_ : List (S49), y_ = (y282 ++ y285) := ⟨_, rfl⟩
         replace H : (some y288) = some r := yz_ hy288 H
         have Ny288 := Aside0.mk hy288
         clear hy288
         obtain rfl := Option.some.inj H
         have p255 : 0 ≤ (a1 : Int) := of_decide_eq_true az_
         have q255 : a1 < (l0.length : Int) := of_decide_eq_true az_
         obtain ⟨ad255, A255_1, c255_1, e255, hx255_0, hx255_1, hl255_1, hi255_1⟩ := at_T49 HR0.out a1 p255 q255
         cases e255
         have HR255_1 := Aside0.mk hi255_1
         have HC255_1 := Aside0.mk hl255_1
         clear hi255_1 hl255_1
         replace p255 := eq_true p255
         replace q255 := eq_true q255
         go_enter Try.func74, Try.ntmps74
         go_wp2_with (first | ((with_reducible refine gate_dst (N := 7) rfl ?_); refine box_event ?hg (N := 7) ?hd (cs := #[.int .i64 0, .slice none 0 0]) (t := 49) ?hr ?_; (case hd => rfl); (case hg => rfl); (case hr => first | (go_simp; done) | (go_simp; rfl)); intro gb256 hg w37 hbox hb; have n0_ := Aside0.mk (below_step bz_ hb); have n1_ := Aside0.mk (hbox); have n2_ := Aside0.mk ((hz_ hg : w.heap.size ≤ gb256)); have n3_ := Aside0.mk ((hz_ hg : w.heap.size ≤ gb256)); clear HB; have HB := n0_; have BK256 := n1_; have GW256 := n2_; have GE256 := n3_; clear n0_ n1_ n2_ n3_; clear hb hbox hg; have hcz38_0 : w37.cell? ⟨gb256, 0, none⟩ = some (.int .i64 0) := (blk_cell BK256.out 0).trans rfl; have hcz38_1 : w37.cell? ⟨gb256, 1, none⟩ = some (.slice none 0 0) := (blk_cell BK256.out 1).trans rfl; have hfz38_0 := blk_frozen BK256.out 0; have hfz38_1 := blk_frozen BK256.out 1) | ((with_reducible refine gate_callee (f := 74) rfl ?_); refine goesL_ (some 46) rfl rfl Try.func74 (by kernel_rfl) rfl #[.slice (some ad255) l0.length c0, .int .i64 (wrap64 (a1 - 1)), .int .i64 a2] rfl mz_ ?_; (with_reducible refine (ih k (by omega) _ _ l0 (wrap64 (a1 - 1)) a2 t276 _ ?side1 ?side2 A33.out).mono ?_); (case side1 => exact Kd.C_below HR0.out (bg_ GE256.out)); (case side2 => exact HC0.out); rintro e w39 ⟨v277, rfl, ho0, hb⟩; refine ⟨_, rfl, ?_⟩; have n0_ := Aside0.mk (Kd.N_lower (Kd.N_mono (ok' := fun k_ => (w.heap.size ≤ k_) ∧ k_ ≠ gb256) ho0 (fun k_ hk_ => ⟨(Nat.le_trans (below_size (bg_ GE256.out)) hk_), (Kd.freshB (g := gb256) (o := .cells #[.int .i64 ((rd_T49 l0 a1).f0), .slice A255_1 ((rd_T49 l0 a1).f1).length c255_1] 49 (0, 0)) (by (with_reducible repeat (first | refine blk_drewN ?_ _ | refine blk_drew ?_ | refine blk_alloc ?_ _)); refine blk_put (cs := #[.int .i64 ((rd_T49 l0 a1).f0), .slice none 0 0]) ?_ 1 _ rfl; (with_reducible repeat (first | refine blk_drewN ?_ _ | refine blk_drew ?_ | refine blk_alloc ?_ _)); refine blk_put (cs := #[.int .i64 0, .slice none 0 0]) ?_ 0 _ rfl; (with_reducible repeat (first | refine blk_drewN ?_ _ | refine blk_drew ?_ | refine blk_alloc ?_ _)); exact BK256.out) k_ hk_)⟩)) (below_size (bg_ GE256.out))); have n1_ := Aside0.mk (blk_below (g := gb256) (o := .cells #[.int .i64 ((rd_T49 l0 a1).f0), .slice A255_1 ((rd_T49 l0 a1).f1).length c255_1] 49 (0, 0)) (by (with_reducible repeat (first | refine blk_drewN ?_ _ | refine blk_drew ?_ | refine blk_alloc ?_ _)); refine blk_put (cs := #[.int .i64 ((rd_T49 l0 a1).f0), .slice none 0 0]) ?_ 1 _ rfl; (with_reducible repeat (first | refine blk_drewN ?_ _ | refine blk_drew ?_ | refine blk_alloc ?_ _)); refine blk_put (cs := #[.int .i64 0, .slice none 0 0]) ?_ 0 _ rfl; (with_reducible repeat (first | refine blk_drewN ?_ _ | refine blk_drew ?_ | refine blk_alloc ?_ _)); exact BK256.out) hb); have n2_ := Aside0.mk (below_step (bg_ GE256.out) hb); clear BK256; clear HB; have HO278 := n0_; have BK256 := n1_; have HB := n2_; clear n0_ n1_ n2_; (try clear ho0)) | ((with_reducible refine gate_callee (f := 107) rfl ?_); refine goesL_ (some 49) rfl rfl Try.func107 (by kernel_rfl) rfl #[.slice (some ad255) l0.length c0, .int .i64 a1] rfl mz_ ?_; (with_reducible refine (spec_l5Part.calls k _ _ l0 a1 t279 _ ?side1 ?side2 A34.out).mono ?_); (case side1 => exact cy_ HR0.out HB.out); (case side2 => exact HC0.out); rintro e w40 ⟨v280, rfl, ho0, hb⟩; refine ⟨_, rfl, ?_⟩; have n0_ := Aside0.mk (Kd.N_elder' (nz_ HO278.out) (kb_ ho0) hb); have n1_ := Aside0.mk (Kd.N_lower (Kd.N_mono (ok' := fun k_ => (w.heap.size ≤ k_) ∧ some k_ ≠ (v277 : Value).ownBlock ∧ k_ ≠ gb256) (Kd.S_N (Kd.S_bound ho0)) (fun k_ hk_ => ⟨(Nat.le_trans (below_size (bg_ GE256.out)) hk_.2.1), (Kd.fresh' (Kd.N_lt (nz_ HO278.out)) k_ hk_.2.1), (Kd.freshB (g := gb256) (o := .cells #[.int .i64 ((rd_T49 l0 a1).f0), .slice A255_1 ((rd_T49 l0 a1).f1).length c255_1] 49 (0, 0)) (kz_ BK256.out) k_ hk_.2.1)⟩)) (below_size (bg_ GE256.out))); have n2_ := Aside0.mk (blk_below (g := gb256) (o := .cells #[.int .i64 ((rd_T49 l0 a1).f0), .slice A255_1 ((rd_T49 l0 a1).f1).length c255_1] 49 (0, 0)) (kz_ BK256.out) hb); have n3_ := Aside0.mk (below_step (bg_ GE256.out) hb); clear HO278; clear BK256; clear HB; have HO278 := n0_; have HO281 := n1_; have BK256 := n2_; have HB := n3_; clear n0_ n1_ n2_ n3_; (try clear ho0); obtain ⟨Ao42, co42, eo42⟩ := Kd.N_slice HO281.out; subst eo42) | ((with_reducible refine gate_builtin (b := .append) (xs := #[.tmp 46, .tmp 49]) rfl ?_); at_builtin; refine Kd.N_append_rows k49 (w0 := w) w.heap.size rfl (.tmp 46) (.tmp 49) 25 49 (.agg #[(.int .i64 0), (.slice none 0 0)]) 32 rfl Try.underlying25 info49 rfl (by decide) (by omega) v277 t276 t279 _ _ _ (fun k_ => (w.heap.size ≤ k_) ∧ k_ ≠ gb256) (fun k_ => ((fun k_ => (w.heap.size ≤ k_) ∧ k_ ≠ gb256)) k_ ∧ some k_ ≠ (v277 : Value).ownBlock) rfl rfl ?aO ?aR (fun _ hk => hk) ?aF ?aB ?aS ?aL ?_; (case aR => exact (by skip; exact Kd.N_F (Kd.N_mono (ok' := (fun k_ => ((fun k_ => (w.heap.size ≤ k_) ∧ k_ ≠ gb256)) k_ ∧ some k_ ≠ (v277 : Value).ownBlock)) (HO281.out) (fun k_ hk => ⟨⟨hk.1, hk.2.2⟩, hk.2.1⟩)))); (case aB => exact (bg_ GE256.out)); (case aF => exact (fun k_ hk => ⟨(Nat.le_trans (below_size (bg_ GE256.out)) hk), Kd.freshB (g := gb256) (o := .cells #[.int .i64 ((rd_T49 l0 a1).f0), .slice A255_1 ((rd_T49 l0 a1).f1).length c255_1] 49 (0, 0)) (kz_ BK256.out) k_ hk⟩)); (case aO => exact (by (with_reducible repeat (first | apply Kd.N_alloc | apply Kd.N_drewN | apply Kd.N_drew)); exact Kd.N_mono HO278.out (fun _ hk => ⟨hk.1.1, hk.1.2⟩))); (case aS => exact (below_size (bg_ GE256.out))); (case aL => have := LMc35.out; omega); intro v283 w41 ho hb hg hat; rw [← Ny282.out] at ho; have n0_ := Aside0.mk (blk_grown (g := gb256) (o := .cells #[.int .i64 ((rd_T49 l0 a1).f0), .slice A255_1 ((rd_T49 l0 a1).f1).length c255_1] 49 (0, 0)) (kz_ BK256.out) hg (Kd.N_away HO278.out (fun _ hk => hk.1.2))); have n1_ := Aside0.mk (Kd.N_afterv (ok := (fun k_ => (w.heap.size ≤ k_) ∧ k_ ≠ gb256)) (by (with_reducible repeat (first | apply Kd.N_alloc | apply Kd.N_drewN | apply Kd.N_drew)); exact Kd.N_mono HO281.out (fun _ hk => ⟨⟨hk.1, hk.2.2⟩, hk.2.1⟩)) hg hat); have n2_ := Aside0.mk (hb); have n3_ := Aside0.mk (ho); clear BK256; clear HO281; clear HB; clear HO278; have BK256 := n0_; have HO281 := n1_; have HB := n2_; have HO284 := n3_; clear n0_ n1_ n2_ n3_; clear ho hb hg hat) | ((with_reducible refine gate_dst (N := 53) rfl ?_); refine Kd.N_lit k49 _ 49 ?hg (N' := 53) ?hd (xs := ([(⟨3, ([] : List Int)⟩ : S49)] : List (S49))) (inner := [.int .i64 3, .slice none 0 0]) (ok := (fun k_ => (w.heap.size ≤ k_) ∧ some k_ ≠ (.slice Ao42 t279.length co42 : Value).ownBlock ∧ some k_ ≠ (v283 : Value).ownBlock ∧ k_ ≠ gb256)) (okp := (fun k_ => (w.heap.size ≤ k_) ∧ some k_ ≠ (.slice Ao42 t279.length co42 : Value).ownBlock ∧ some k_ ≠ (v283 : Value).ownBlock ∧ k_ ≠ gb256)) ?hr ?hp (fun _ hk => hk) (by exact ((show ∀ k_, (_ : World).heap.size ≤ k_ → (fun k_ => (w.heap.size ≤ k_) ∧ some k_ ≠ (.slice Ao42 t279.length co42 : Value).ownBlock ∧ some k_ ≠ (v283 : Value).ownBlock ∧ k_ ≠ gb256) k_ from fun k_ hk => ⟨(Nat.le_trans (below_size (bg_ GE256.out)) hk), Kd.fresh' (Kd.N_lt (nz_ HO281.out)) k_ hk, Kd.fresh' (Kd.N_lt (nz_ HO284.out)) k_ hk, Kd.freshB (g := gb256) (o := .cells #[.int .i64 ((rd_T49 l0 a1).f0), .slice A255_1 ((rd_T49 l0 a1).f1).length c255_1] 49 (0, 0)) (kz_ BK256.out) k_ hk⟩) _ (Nat.le_refl _))) (Below.refl _ _) (Nat.le_refl _) (by simp) ?_; (case hd => rfl); (case hg => rfl); (case hr => first | (go_simp; done) | (go_simp; rfl)); (case hp => exact (Reps.c2 (show Kd.FK k49 _ _ (⟨3, ([] : List Int)⟩ : S49) [.int .i64 3, .slice none 0 0] from (k49_mkF _ _ (⟨3, ([] : List Int)⟩ : S49) (Nat.le_refl _) (Kd.F_nil _ _ _))) (Reps.none _ _))); intro v286 w43 ho44 hb hg_ hnew_; clear hg_ hnew_; (first | rw [← Ny285.out] at ho44 | (simp only [Int.reduceToNat] at ho44; rw [← Ny285.out] at ho44)); have n0_ := Aside0.mk (Kd.N_elder' (nz_ HO281.out) (kb_ ho44) hb); have n1_ := Aside0.mk (Kd.N_elder' (nz_ HO284.out) (kb_ ho44) hb); have n2_ := Aside0.mk (Kd.N_lower ho44 (below_size (bg_ GE256.out))); have n3_ := Aside0.mk (blk_below (g := gb256) (o := .cells #[.int .i64 ((rd_T49 l0 a1).f0), .slice A255_1 ((rd_T49 l0 a1).f1).length c255_1] 49 (0, 0)) (kz_ BK256.out) hb); have n4_ := Aside0.mk (below_step (bg_ GE256.out) hb); clear HO281; clear HO284; clear BK256; clear HB; have HO281 := n0_; have HO284 := n1_; have HO287 := n2_; have BK256 := n3_; have HB := n4_; clear n0_ n1_ n2_ n3_ n4_; clear hb ho44; obtain ⟨Ao46, co46, eo46⟩ := Kd.N_slice HO287.out; subst eo46) | ((with_reducible refine gate_builtin (b := .append) (xs := #[.tmp 51, .tmp 53]) rfl ?_); at_builtin; refine Kd.N_append_rows k49 (w0 := w) w.heap.size rfl (.tmp 51) (.tmp 53) 25 49 (.agg #[(.int .i64 0), (.slice none 0 0)]) 32 rfl Try.underlying25 info49 rfl (by decide) (by omega) v283 y282 y285 _ _ _ (fun k_ => (w.heap.size ≤ k_) ∧ k_ ≠ gb256) (fun k_ => ((fun k_ => (w.heap.size ≤ k_) ∧ k_ ≠ gb256)) k_ ∧ some k_ ≠ (v283 : Value).ownBlock) rfl rfl ?aO ?aR (fun _ hk => hk) ?aF ?aB ?aS ?aL ?_; (case aR => exact (by skip; exact Kd.N_F (Kd.N_mono (ok' := (fun k_ => ((fun k_ => (w.heap.size ≤ k_) ∧ k_ ≠ gb256)) k_ ∧ some k_ ≠ (v283 : Value).ownBlock)) (HO287.out) (fun k_ hk => ⟨⟨hk.1, hk.2.2.2⟩, hk.2.2.1⟩)))); (case aB => exact (bg_ GE256.out)); (case aF => exact (fun k_ hk => ⟨(Nat.le_trans (below_size (bg_ GE256.out)) hk), Kd.freshB (g := gb256) (o := .cells #[.int .i64 ((rd_T49 l0 a1).f0), .slice A255_1 ((rd_T49 l0 a1).f1).length c255_1] 49 (0, 0)) (kz_ BK256.out) k_ hk⟩)); (case aO => exact (by (with_reducible repeat (first | apply Kd.N_alloc | apply Kd.N_drewN | apply Kd.N_drew)); exact Kd.N_mono HO284.out (fun _ hk => ⟨hk.1.1, hk.1.2⟩))); (case aS => exact (below_size (bg_ GE256.out))); (case aL => have := LMc36.out; omega); intro v289 w45 ho hb hg hat; rw [← Ny288.out] at ho; have n0_ := Aside0.mk (blk_grown (g := gb256) (o := .cells #[.int .i64 ((rd_T49 l0 a1).f0), .slice A255_1 ((rd_T49 l0 a1).f1).length c255_1] 49 (0, 0)) (kz_ BK256.out) hg (Kd.N_away HO284.out (fun _ hk => hk.1.2))); have n1_ := Aside0.mk (Kd.N_afterv (ok := (fun k_ => (w.heap.size ≤ k_) ∧ some k_ ≠ (.slice Ao46 y285.length co46 : Value).ownBlock ∧ k_ ≠ gb256)) (by (with_reducible repeat (first | apply Kd.N_alloc | apply Kd.N_drewN | apply Kd.N_drew)); exact Kd.N_mono HO281.out (fun _ hk => ⟨⟨hk.1.1.1, ⟨hk.2, hk.1.1.2⟩⟩, hk.1.2⟩)) hg hat); have n2_ := Aside0.mk (Kd.N_afterv (ok := (fun k_ => (w.heap.size ≤ k_) ∧ some k_ ≠ (.slice Ao42 t279.length co42 : Value).ownBlock ∧ k_ ≠ gb256)) (by (with_reducible repeat (first | apply Kd.N_alloc | apply Kd.N_drewN | apply Kd.N_drew)); exact Kd.N_mono HO287.out (fun _ hk => ⟨⟨hk.1, ⟨hk.2.1, hk.2.2.2⟩⟩, hk.2.2.1⟩)) hg hat); have n3_ := Aside0.mk (hb); have n4_ := Aside0.mk (ho); clear BK256; clear HO281; clear HO287; clear HB; clear HO284; have BK256 := n0_; have HO281 := n1_; have HO287 := n2_; have HB := n3_; have HO290 := n4_; clear n0_ n1_ n2_ n3_ n4_; clear ho hb hg hat))
         go_ret
         exact ⟨_, rr_, by (with_reducible repeat (first | apply Kd.N_alloc | apply Kd.N_drewN | apply Kd.N_drew)); exact Kd.N_mono HO290.out (fun _ hk => hk.1), bg_ GE256.out⟩
        ·rw [if_neg c36] at H
         exact absurd H (by simp)
       ·rw [if_neg c35] at H
        exact absurd H (by simp)
      ·rw [if_neg c32] at H
       have c32b0 := q3_ c32
       have c32b1 := q4_ c32
       replace H := Option.bind_eq_some_iff.mp H
       obtain ⟨t291, A470, H⟩ := H
       try dsimp only at H
       have A47 := Aside0.mk A470
       clear A470
       replace H := Option.bind_eq_some_iff.mp H
       obtain ⟨t292, A480, H⟩ := H
       try dsimp only at H
       have A48 := Aside0.mk A480
       clear A480
       by_cases c49 : ((rd_T49 l0 a1).f0) = 3
       ·rw [if_pos c49] at H
        have c49b0 := q1_ c49
        have c49b1 := q2_ c49
        clear c49
        replace H := Option.bind_eq_some_iff.mp H
        obtain ⟨t307, A500, H⟩ := H
        try dsimp only at H
        have A50 := Aside0.mk A500
        clear A500
        by_cases c51 : t292.length + t307.length < 4398046511104
        ·rw [if_pos c51] at H
         have LMc51 := Aside0.mk c51
         clear c51
         obtain ⟨y310, hy310⟩ : ∃ y_ : List (S49), y_ = (t292 ++ t307) := ⟨_, rfl⟩
         replace H : ((some (([(⟨3, ([] : List Int)⟩ : S49)] : List (S49)) : List (S49))).bind fun y313 => (if y310.length + y313.length < 4398046511104 then ((some (y310 ++ y313 : List (S49))).bind fun y316 => ((spec_l5Part.f k l0 t291).bind fun t319 => ((spec_l5Matches.f k t319 ([] : List Int)).bind fun t322 => (if t322 = true then ((spec_l5Deriv.f k l0 (wrap64 (a1 - 1)) a2).bind fun t323 => (if y316.length + t323.length < 4398046511104 then ((some (y316 ++ t323 : List (S49))).bind fun y326 => ((some (([(⟨4, ([] : List Int)⟩ : S49)] : List (S49)) : List (S49))).bind fun y329 => (if y326.length + y329.length < 4398046511104 then (some (y326 ++ y329)) else (none)))) else (none))) else (some y316))))) else (none))) = some r := yz_ hy310 H
         have Ny310 := Aside0.mk hy310
         clear hy310
         obtain ⟨y313, hy313⟩ : ∃ y_ : List (S49), y_ = (([(⟨3, ([] : List Int)⟩ : S49)] : List (S49))) := ⟨_, rfl⟩
         replace H : (if y310.length + y313.length < 4398046511104 then ((some (y310 ++ y313 : List (S49))).bind fun y316 => ((spec_l5Part.f k l0 t291).bind fun t319 => ((spec_l5Matches.f k t319 ([] : List Int)).bind fun t322 => (if t322 = true then ((spec_l5Deriv.f k l0 (wrap64 (a1 - 1)) a2).bind fun t323 => (if y316.length + t323.length < 4398046511104 then ((some (y316 ++ t323 : List (S49))).bind fun y326 => ((some (([(⟨4, ([] : List Int)⟩ : S49)] : List (S49)) : List (S49))).bind fun y329 => (if y326.length + y329.length < 4398046511104 then (some (y326 ++ y329)) else (none)))) else (none))) else (some y316))))) else (none)) = some r := yz_ hy313 H
         have Ny313 := Aside0.mk hy313
         clear hy313
         by_cases c52 : y310.length + y313.length < 4398046511104
         ·rw [if_pos c52] at H
          have LMc52 := Aside0.mk c52
          clear c52
          obtain ⟨y316, hy316⟩ : ∃ y_ : List (S49), y_ = (y310 ++ y313) := ⟨_, rfl⟩
          replace H : ((spec_l5Part.f k l0 t291).bind fun t319 => ((spec_l5Matches.f k t319 ([] : List Int)).bind fun t322 => (if t322 = true then ((spec_l5Deriv.f k l0 (wrap64 (a1 - 1)) a2).bind fun t323 => (if y316.length + t323.length < 4398046511104 then ((some (y316 ++ t323 : List (S49))).bind fun y326 => ((some (([(⟨4, ([] : List Int)⟩ : S49)] : List (S49)) : List (S49))).bind fun y329 => (if y326.length + y329.length < 4398046511104 then (some (y326 ++ y329)) else (none)))) else (none))) else (some y316)))) = some r := yz_ hy316 H
          have Ny316 := Aside0.mk hy316
          clear hy316
          replace H := Option.bind_eq_some_iff.mp H
          obtain ⟨t319, A530, H⟩ := H
          try dsimp only at H
          have A53 := Aside0.mk A530
          clear A530
          replace H := Option.bind_eq_some_iff.mp H
          obtain ⟨t322, A540, H⟩ := H
          try dsimp only at H
          have A54 := Aside0.mk A540
          clear A540
          by_cases c55 : t322 = true
          ·subst c55
           have H1 := H
           rw [if_pos rfl] at H1
           clear H
           have H := H1
           clear H1
           replace H := Option.bind_eq_some_iff.mp H
           obtain ⟨t323, A560, H⟩ := H
           try dsimp only at H
           have A56 := Aside0.mk A560
           clear A560
           by_cases c57 : y316.length + t323.length < 4398046511104
           ·rw [if_pos c57] at H
            have LMc57 := Aside0.mk c57
            clear c57
            obtain ⟨y326, hy326⟩ : ∃ y_ : List (S49), y_ = (y316 ++ t323) := ⟨_, rfl⟩
            replace H : ((some (([(⟨4, ([] : List Int)⟩ : S49)] : List (S49)) : List (S49))).bind fun y329 => (if y326.length + y329.length < 4398046511104 then (some (y326 ++ y329)) else (none))) = some r := yz_ hy326 H
            have Ny326 := Aside0.mk hy326
            clear hy326
            obtain ⟨y329, hy329⟩ : ∃ y_ : List (S49), y_ = (([(⟨4, ([] : List Int)⟩ : S49)] : List (S49))) := ⟨_, rfl⟩
            replace H : (if y326.length + y329.length < 4398046511104 then (some (y326 ++ y329)) else (none)) = some r := yz_ hy329 H
            have Ny329 := Aside0.mk hy329
            clear hy329
            by_cases c58 : y326.length + y329.length < 4398046511104
            ·rw [if_pos c58] at H
             have LMc58 := Aside0.mk c58
             clear c58
             obtain ⟨y332, hy332⟩ : ∃ y_ : List (S49), y_ = (y326 ++ y329) := ⟨_, rfl⟩
             replace H : (some y332) = some r := yz_ hy332 H
             have Ny332 := Aside0.mk hy332
             clear hy332
             obtain rfl := Option.some.inj H
             have p255 : 0 ≤ (a1 : Int) := of_decide_eq_true az_
             have q255 : a1 < (l0.length : Int) := of_decide_eq_true az_
             obtain ⟨ad255, A255_1, c255_1, e255, hx255_0, hx255_1, hl255_1, hi255_1⟩ := at_T49 HR0.out a1 p255 q255
             cases e255
             have HR255_1 := Aside0.mk hi255_1
             have HC255_1 := Aside0.mk hl255_1
             clear hi255_1 hl255_1
             replace p255 := eq_true p255
             replace q255 := eq_true q255
             go_enter Try.func74, Try.ntmps74
             go_wp2_with (first | ((with_reducible refine gate_dst (N := 7) rfl ?_); refine box_event ?hg (N := 7) ?hd (cs := #[.int .i64 0, .slice none 0 0]) (t := 49) ?hr ?_; (case hd => rfl); (case hg => rfl); (case hr => first | (go_simp; done) | (go_simp; rfl)); intro gb256 hg w59 hbox hb; have n0_ := Aside0.mk (below_step bz_ hb); have n1_ := Aside0.mk (hbox); have n2_ := Aside0.mk ((hz_ hg : w.heap.size ≤ gb256)); have n3_ := Aside0.mk ((hz_ hg : w.heap.size ≤ gb256)); clear HB; have HB := n0_; have BK256 := n1_; have GW256 := n2_; have GE256 := n3_; clear n0_ n1_ n2_ n3_; clear hb hbox hg; have hcz60_0 : w59.cell? ⟨gb256, 0, none⟩ = some (.int .i64 0) := (blk_cell BK256.out 0).trans rfl; have hcz60_1 : w59.cell? ⟨gb256, 1, none⟩ = some (.slice none 0 0) := (blk_cell BK256.out 1).trans rfl; have hfz60_0 := blk_frozen BK256.out 0; have hfz60_1 := blk_frozen BK256.out 1) | ((with_reducible refine gate_callee (f := 94) rfl ?_); refine goesL_ (some 57) rfl rfl Try.func94 (by kernel_rfl) rfl #[.slice (some ad255) l0.length c0, .int .i64 a1] rfl mz_ ?_; (with_reducible refine (spec_l5First.calls k _ _ l0 a1 t291 _ ?side1 ?side2 A47.out).mono ?_); (case side1 => exact Kd.C_below HR0.out (bg_ GE256.out)); (case side2 => exact HC0.out); rintro e w' ⟨rfl, ⟨nd, rfl⟩⟩; refine ⟨_, rfl, ?_⟩) | ((with_reducible refine gate_callee (f := 74) rfl ?_); refine goesL_ (some 61) rfl rfl Try.func74 (by kernel_rfl) rfl #[.slice (some ad255) l0.length c0, .int .i64 t291, .int .i64 a2] rfl mz_ ?_; (with_reducible refine (ih k (by omega) _ _ l0 t291 a2 t292 _ ?side1 ?side2 A48.out).mono ?_); (case side1 => exact Kd.C_below HR0.out (bg_ GE256.out)); (case side2 => exact HC0.out); rintro e w61 ⟨v293, rfl, ho0, hb⟩; refine ⟨_, rfl, ?_⟩; have n0_ := Aside0.mk (Kd.N_lower (Kd.N_mono (ok' := fun k_ => (w.heap.size ≤ k_) ∧ k_ ≠ gb256) ho0 (fun k_ hk_ => ⟨(Nat.le_trans (below_size (bg_ GE256.out)) hk_), (Kd.freshB (g := gb256) (o := .cells #[.int .i64 ((rd_T49 l0 a1).f0), .slice A255_1 ((rd_T49 l0 a1).f1).length c255_1] 49 (0, 0)) (by (with_reducible repeat (first | refine blk_drewN ?_ _ | refine blk_drew ?_ | refine blk_alloc ?_ _)); refine blk_put (cs := #[.int .i64 ((rd_T49 l0 a1).f0), .slice none 0 0]) ?_ 1 _ rfl; (with_reducible repeat (first | refine blk_drewN ?_ _ | refine blk_drew ?_ | refine blk_alloc ?_ _)); refine blk_put (cs := #[.int .i64 0, .slice none 0 0]) ?_ 0 _ rfl; (with_reducible repeat (first | refine blk_drewN ?_ _ | refine blk_drew ?_ | refine blk_alloc ?_ _)); exact BK256.out) k_ hk_)⟩)) (below_size (bg_ GE256.out))); have n1_ := Aside0.mk (blk_below (g := gb256) (o := .cells #[.int .i64 ((rd_T49 l0 a1).f0), .slice A255_1 ((rd_T49 l0 a1).f1).length c255_1] 49 (0, 0)) (by (with_reducible repeat (first | refine blk_drewN ?_ _ | refine blk_drew ?_ | refine blk_alloc ?_ _)); refine blk_put (cs := #[.int .i64 ((rd_T49 l0 a1).f0), .slice none 0 0]) ?_ 1 _ rfl; (with_reducible repeat (first | refine blk_drewN ?_ _ | refine blk_drew ?_ | refine blk_alloc ?_ _)); refine blk_put (cs := #[.int .i64 0, .slice none 0 0]) ?_ 0 _ rfl; (with_reducible repeat (first | refine blk_drewN ?_ _ | refine blk_drew ?_ | refine blk_alloc ?_ _)); exact BK256.out) hb); have n2_ := Aside0.mk (below_step (bg_ GE256.out) hb); clear BK256; clear HB; have HO294 := n0_; have BK256 := n1_; have HB := n2_; clear n0_ n1_ n2_; (try clear ho0); have hcz62_0 : w61.cell? ⟨gb256, 0, none⟩ = some (.int .i64 ((rd_T49 l0 a1).f0)) := (blk_cell BK256.out 0).trans rfl; have hcz62_1 : w61.cell? ⟨gb256, 1, none⟩ = some (.slice A255_1 ((rd_T49 l0 a1).f1).length c255_1) := (blk_cell BK256.out 1).trans rfl; have hfz62_0 := blk_frozen BK256.out 0; have hfz62_1 := blk_frozen BK256.out 1) | ((with_reducible refine gate_callee (f := 107) rfl ?_); refine goesL_ (some 81) rfl rfl Try.func107 (by kernel_rfl) rfl #[.slice (some ad255) l0.length c0, .int .i64 (wrap64 (a1 - 1))] rfl mz_ ?_; (with_reducible refine (spec_l5Part.calls k _ _ l0 (wrap64 (a1 - 1)) t307 _ ?side1 ?side2 A50.out).mono ?_); (case side1 => exact cy_ HR0.out HB.out); (case side2 => exact HC0.out); rintro e w63 ⟨v308, rfl, ho0, hb⟩; refine ⟨_, rfl, ?_⟩; have n0_ := Aside0.mk (Kd.N_elder' (nz_ HO294.out) (kb_ ho0) hb); have n1_ := Aside0.mk (Kd.N_lower (Kd.N_mono (ok' := fun k_ => (w.heap.size ≤ k_) ∧ some k_ ≠ (v293 : Value).ownBlock ∧ k_ ≠ gb256) (Kd.S_N (Kd.S_bound ho0)) (fun k_ hk_ => ⟨(Nat.le_trans (below_size (bg_ GE256.out)) hk_.2.1), (Kd.fresh' (Kd.N_lt (nz_ HO294.out)) k_ hk_.2.1), (Kd.freshB (g := gb256) (o := .cells #[.int .i64 ((rd_T49 l0 a1).f0), .slice A255_1 ((rd_T49 l0 a1).f1).length c255_1] 49 (0, 0)) (kz_ BK256.out) k_ hk_.2.1)⟩)) (below_size (bg_ GE256.out))); have n2_ := Aside0.mk (blk_below (g := gb256) (o := .cells #[.int .i64 ((rd_T49 l0 a1).f0), .slice A255_1 ((rd_T49 l0 a1).f1).length c255_1] 49 (0, 0)) (kz_ BK256.out) hb); have n3_ := Aside0.mk (below_step (bg_ GE256.out) hb); clear HO294; clear BK256; clear HB; have HO294 := n0_; have HO309 := n1_; have BK256 := n2_; have HB := n3_; clear n0_ n1_ n2_ n3_; (try clear ho0); obtain ⟨Ao65, co65, eo65⟩ := Kd.N_slice HO309.out; subst eo65) | ((with_reducible refine gate_builtin (b := .append) (xs := #[.tmp 77, .tmp 81]) rfl ?_); at_builtin; refine Kd.N_append_rows k49 (w0 := w) w.heap.size rfl (.tmp 77) (.tmp 81) 25 49 (.agg #[(.int .i64 0), (.slice none 0 0)]) 32 rfl Try.underlying25 info49 rfl (by decide) (by omega) v293 t292 t307 _ _ _ (fun k_ => (w.heap.size ≤ k_) ∧ k_ ≠ gb256) (fun k_ => ((fun k_ => (w.heap.size ≤ k_) ∧ k_ ≠ gb256)) k_ ∧ some k_ ≠ (v293 : Value).ownBlock) rfl rfl ?aO ?aR (fun _ hk => hk) ?aF ?aB ?aS ?aL ?_; (case aR => exact (by skip; exact Kd.N_F (Kd.N_mono (ok' := (fun k_ => ((fun k_ => (w.heap.size ≤ k_) ∧ k_ ≠ gb256)) k_ ∧ some k_ ≠ (v293 : Value).ownBlock)) (HO309.out) (fun k_ hk => ⟨⟨hk.1, hk.2.2⟩, hk.2.1⟩)))); (case aB => exact (bg_ GE256.out)); (case aF => exact (fun k_ hk => ⟨(Nat.le_trans (below_size (bg_ GE256.out)) hk), Kd.freshB (g := gb256) (o := .cells #[.int .i64 ((rd_T49 l0 a1).f0), .slice A255_1 ((rd_T49 l0 a1).f1).length c255_1] 49 (0, 0)) (kz_ BK256.out) k_ hk⟩)); (case aO => exact (by (with_reducible repeat (first | apply Kd.N_alloc | apply Kd.N_drewN | apply Kd.N_drew)); exact Kd.N_mono HO294.out (fun _ hk => ⟨hk.1.1, hk.1.2⟩))); (case aS => exact (below_size (bg_ GE256.out))); (case aL => have := LMc51.out; omega); intro v311 w64 ho hb hg hat; rw [← Ny310.out] at ho; have n0_ := Aside0.mk (blk_grown (g := gb256) (o := .cells #[.int .i64 ((rd_T49 l0 a1).f0), .slice A255_1 ((rd_T49 l0 a1).f1).length c255_1] 49 (0, 0)) (kz_ BK256.out) hg (Kd.N_away HO294.out (fun _ hk => hk.1.2))); have n1_ := Aside0.mk (Kd.N_afterv (ok := (fun k_ => (w.heap.size ≤ k_) ∧ k_ ≠ gb256)) (by (with_reducible repeat (first | apply Kd.N_alloc | apply Kd.N_drewN | apply Kd.N_drew)); exact Kd.N_mono HO309.out (fun _ hk => ⟨⟨hk.1, hk.2.2⟩, hk.2.1⟩)) hg hat); have n2_ := Aside0.mk (hb); have n3_ := Aside0.mk (ho); clear BK256; clear HO309; clear HB; clear HO294; have BK256 := n0_; have HO309 := n1_; have HB := n2_; have HO312 := n3_; clear n0_ n1_ n2_ n3_; clear ho hb hg hat) | ((with_reducible refine gate_dst (N := 84) rfl ?_); refine Kd.N_lit k49 _ 49 ?hg (N' := 84) ?hd (xs := ([(⟨3, ([] : List Int)⟩ : S49)] : List (S49))) (inner := [.int .i64 3, .slice none 0 0]) (ok := (fun k_ => (w.heap.size ≤ k_) ∧ some k_ ≠ (.slice Ao65 t307.length co65 : Value).ownBlock ∧ some k_ ≠ (v311 : Value).ownBlock ∧ k_ ≠ gb256)) (okp := (fun k_ => (w.heap.size ≤ k_) ∧ some k_ ≠ (.slice Ao65 t307.length co65 : Value).ownBlock ∧ some k_ ≠ (v311 : Value).ownBlock ∧ k_ ≠ gb256)) ?hr ?hp (fun _ hk => hk) (by exact ((show ∀ k_, (_ : World).heap.size ≤ k_ → (fun k_ => (w.heap.size ≤ k_) ∧ some k_ ≠ (.slice Ao65 t307.length co65 : Value).ownBlock ∧ some k_ ≠ (v311 : Value).ownBlock ∧ k_ ≠ gb256) k_ from fun k_ hk => ⟨(Nat.le_trans (below_size (bg_ GE256.out)) hk), Kd.fresh' (Kd.N_lt (nz_ HO309.out)) k_ hk, Kd.fresh' (Kd.N_lt (nz_ HO312.out)) k_ hk, Kd.freshB (g := gb256) (o := .cells #[.int .i64 ((rd_T49 l0 a1).f0), .slice A255_1 ((rd_T49 l0 a1).f1).length c255_1] 49 (0, 0)) (kz_ BK256.out) k_ hk⟩) _ (Nat.le_refl _))) (Below.refl _ _) (Nat.le_refl _) (by simp) ?_; (case hd => rfl); (case hg => rfl); (case hr => first | (go_simp; done) | (go_simp; rfl)); (case hp => exact (Reps.c2 (show Kd.FK k49 _ _ (⟨3, ([] : List Int)⟩ : S49) [.int .i64 3, .slice none 0 0] from (k49_mkF _ _ (⟨3, ([] : List Int)⟩ : S49) (Nat.le_refl _) (Kd.F_nil _ _ _))) (Reps.none _ _))); intro v314 w66 ho67 hb hg_ hnew_; clear hg_ hnew_; (first | rw [← Ny313.out] at ho67 | (simp only [Int.reduceToNat] at ho67; rw [← Ny313.out] at ho67)); have n0_ := Aside0.mk (Kd.N_elder' (nz_ HO309.out) (kb_ ho67) hb); have n1_ := Aside0.mk (Kd.N_elder' (nz_ HO312.out) (kb_ ho67) hb); have n2_ := Aside0.mk (Kd.N_lower ho67 (below_size (bg_ GE256.out))); have n3_ := Aside0.mk (blk_below (g := gb256) (o := .cells #[.int .i64 ((rd_T49 l0 a1).f0), .slice A255_1 ((rd_T49 l0 a1).f1).length c255_1] 49 (0, 0)) (kz_ BK256.out) hb); have n4_ := Aside0.mk (below_step (bg_ GE256.out) hb); clear HO309; clear HO312; clear BK256; clear HB; have HO309 := n0_; have HO312 := n1_; have HO315 := n2_; have BK256 := n3_; have HB := n4_; clear n0_ n1_ n2_ n3_ n4_; clear hb ho67; obtain ⟨Ao69, co69, eo69⟩ := Kd.N_slice HO315.out; subst eo69) | ((with_reducible refine gate_builtin (b := .append) (xs := #[.tmp 82, .tmp 84]) rfl ?_); at_builtin; refine Kd.N_append_rows k49 (w0 := w) w.heap.size rfl (.tmp 82) (.tmp 84) 25 49 (.agg #[(.int .i64 0), (.slice none 0 0)]) 32 rfl Try.underlying25 info49 rfl (by decide) (by omega) v311 y310 y313 _ _ _ (fun k_ => (w.heap.size ≤ k_) ∧ k_ ≠ gb256) (fun k_ => ((fun k_ => (w.heap.size ≤ k_) ∧ k_ ≠ gb256)) k_ ∧ some k_ ≠ (v311 : Value).ownBlock) rfl rfl ?aO ?aR (fun _ hk => hk) ?aF ?aB ?aS ?aL ?_; (case aR => exact (by skip; exact Kd.N_F (Kd.N_mono (ok' := (fun k_ => ((fun k_ => (w.heap.size ≤ k_) ∧ k_ ≠ gb256)) k_ ∧ some k_ ≠ (v311 : Value).ownBlock)) (HO315.out) (fun k_ hk => ⟨⟨hk.1, hk.2.2.2⟩, hk.2.2.1⟩)))); (case aB => exact (bg_ GE256.out)); (case aF => exact (fun k_ hk => ⟨(Nat.le_trans (below_size (bg_ GE256.out)) hk), Kd.freshB (g := gb256) (o := .cells #[.int .i64 ((rd_T49 l0 a1).f0), .slice A255_1 ((rd_T49 l0 a1).f1).length c255_1] 49 (0, 0)) (kz_ BK256.out) k_ hk⟩)); (case aO => exact (by (with_reducible repeat (first | apply Kd.N_alloc | apply Kd.N_drewN | apply Kd.N_drew)); exact Kd.N_mono HO312.out (fun _ hk => ⟨hk.1.1, hk.1.2⟩))); (case aS => exact (below_size (bg_ GE256.out))); (case aL => have := LMc52.out; omega); intro v317 w68 ho hb hg hat; rw [← Ny316.out] at ho; have n0_ := Aside0.mk (blk_grown (g := gb256) (o := .cells #[.int .i64 ((rd_T49 l0 a1).f0), .slice A255_1 ((rd_T49 l0 a1).f1).length c255_1] 49 (0, 0)) (kz_ BK256.out) hg (Kd.N_away HO312.out (fun _ hk => hk.1.2))); have n1_ := Aside0.mk (Kd.N_afterv (ok := (fun k_ => (w.heap.size ≤ k_) ∧ some k_ ≠ (.slice Ao69 y313.length co69 : Value).ownBlock ∧ k_ ≠ gb256)) (by (with_reducible repeat (first | apply Kd.N_alloc | apply Kd.N_drewN | apply Kd.N_drew)); exact Kd.N_mono HO309.out (fun _ hk => ⟨⟨hk.1.1.1, ⟨hk.2, hk.1.1.2⟩⟩, hk.1.2⟩)) hg hat); have n2_ := Aside0.mk (Kd.N_afterv (ok := (fun k_ => (w.heap.size ≤ k_) ∧ some k_ ≠ (.slice Ao65 t307.length co65 : Value).ownBlock ∧ k_ ≠ gb256)) (by (with_reducible repeat (first | apply Kd.N_alloc | apply Kd.N_drewN | apply Kd.N_drew)); exact Kd.N_mono HO315.out (fun _ hk => ⟨⟨hk.1, ⟨hk.2.1, hk.2.2.2⟩⟩, hk.2.2.1⟩)) hg hat); have n3_ := Aside0.mk (hb); have n4_ := Aside0.mk (ho); clear BK256; clear HO309; clear HO315; clear HB; clear HO312; have BK256 := n0_; have HO309 := n1_; have HO315 := n2_; have HB := n3_; have HO318 := n4_; clear n0_ n1_ n2_ n3_ n4_; clear ho hb hg hat) | ((with_reducible refine gate_callee (f := 107) rfl ?_); refine goesL_ (some 88) rfl rfl Try.func107 (by kernel_rfl) rfl #[.slice (some ad255) l0.length c0, .int .i64 t291] rfl mz_ ?_; (with_reducible refine (spec_l5Part.calls k _ _ l0 t291 t319 _ ?side1 ?side2 A53.out).mono ?_); (case side1 => exact cy_ HR0.out HB.out); (case side2 => exact HC0.out); rintro e w70 ⟨v320, rfl, ho0, hb⟩; refine ⟨_, rfl, ?_⟩; have n0_ := Aside0.mk (Kd.N_elder' (nz_ HO309.out) (kb_ ho0) hb); have n1_ := Aside0.mk (Kd.N_elder' (nz_ HO315.out) (kb_ ho0) hb); have n2_ := Aside0.mk (Kd.N_elder' (nz_ HO318.out) (kb_ ho0) hb); have n3_ := Aside0.mk (Kd.N_lower (Kd.N_mono (ok' := fun k_ => (w.heap.size ≤ k_) ∧ some k_ ≠ (.slice Ao65 t307.length co65 : Value).ownBlock ∧ some k_ ≠ (.slice Ao69 y313.length co69 : Value).ownBlock ∧ some k_ ≠ (v317 : Value).ownBlock ∧ k_ ≠ gb256) (Kd.S_N (Kd.S_bound ho0)) (fun k_ hk_ => ⟨(Nat.le_trans (below_size (bg_ GE256.out)) hk_.2.1), (Kd.fresh' (Kd.N_lt (nz_ HO309.out)) k_ hk_.2.1), (Kd.fresh' (Kd.N_lt (nz_ HO315.out)) k_ hk_.2.1), (Kd.fresh' (Kd.N_lt (nz_ HO318.out)) k_ hk_.2.1), (Kd.freshB (g := gb256) (o := .cells #[.int .i64 ((rd_T49 l0 a1).f0), .slice A255_1 ((rd_T49 l0 a1).f1).length c255_1] 49 (0, 0)) (kz_ BK256.out) k_ hk_.2.1)⟩)) (below_size (bg_ GE256.out))); have n4_ := Aside0.mk (blk_below (g := gb256) (o := .cells #[.int .i64 ((rd_T49 l0 a1).f0), .slice A255_1 ((rd_T49 l0 a1).f1).length c255_1] 49 (0, 0)) (kz_ BK256.out) hb); have n5_ := Aside0.mk (below_step (bg_ GE256.out) hb); clear HO309; clear HO315; clear HO318; clear BK256; clear HB; have HO309 := n0_; have HO315 := n1_; have HO318 := n2_; have HO321 := n3_; have BK256 := n4_; have HB := n5_; clear n0_ n1_ n2_ n3_ n4_ n5_; (try clear ho0); obtain ⟨Ao71, co71, eo71⟩ := Kd.N_slice HO321.out; subst eo71) | ((with_reducible refine gate_callee (f := 61) rfl ?_); refine goesL_ (some 89) rfl rfl Try.func61 (by kernel_rfl) rfl #[.slice Ao71 t319.length co71, .slice none 0 0] rfl mz_ ?_; (refine (spec_l5Matches.calls k _ _ t319 _ _ ([] : List Int) true _ ?side1 ?side2 ?side3 ?side4 A54.out).mono ?_); (case side1 => repeat (first | exact (Kd.N_reads' HO321.out).2.2 | (with_reducible refine Kd.C_alloc ?_ _) | (with_reducible refine Kd.C_drewN ?_ _) | (with_reducible refine Kd.C_drew ?_))); (case side2 => exact (Kd.N_reads' HO321.out).2.1); (case side3 => exact Kd.C_nil _ _); (case side4 => exact Nat.le_refl _); rintro e w72 ⟨rfl, hb⟩; refine ⟨_, rfl, ?_⟩; have n0_ := Aside0.mk (Kd.N_below (nz_ HO309.out) hb); have n1_ := Aside0.mk (Kd.N_below (nz_ HO315.out) hb); have n2_ := Aside0.mk (Kd.N_below (nz_ HO318.out) hb); have n3_ := Aside0.mk (Kd.N_below (nz_ HO321.out) hb); have n4_ := Aside0.mk (blk_below (g := gb256) (o := .cells #[.int .i64 ((rd_T49 l0 a1).f0), .slice A255_1 ((rd_T49 l0 a1).f1).length c255_1] 49 (0, 0)) (kz_ BK256.out) hb); have n5_ := Aside0.mk (below_step (bg_ GE256.out) hb); clear HO309; clear HO315; clear HO318; clear HO321; clear BK256; clear HB; have HO309 := n0_; have HO315 := n1_; have HO318 := n2_; have HO321 := n3_; have BK256 := n4_; have HB := n5_; clear n0_ n1_ n2_ n3_ n4_ n5_; ) | ((with_reducible refine gate_callee (f := 74) rfl ?_); refine goesL_ (some 95) rfl rfl Try.func74 (by kernel_rfl) rfl #[.slice (some ad255) l0.length c0, .int .i64 (wrap64 (a1 - 1)), .int .i64 a2] rfl mz_ ?_; (with_reducible refine (ih k (by omega) _ _ l0 (wrap64 (a1 - 1)) a2 t323 _ ?side1 ?side2 A56.out).mono ?_); (case side1 => exact cy_ HR0.out HB.out); (case side2 => exact HC0.out); rintro e w73 ⟨v324, rfl, ho0, hb⟩; refine ⟨_, rfl, ?_⟩; have n0_ := Aside0.mk (Kd.N_elder' (nz_ HO309.out) (kb_ ho0) hb); have n1_ := Aside0.mk (Kd.N_elder' (nz_ HO315.out) (kb_ ho0) hb); have n2_ := Aside0.mk (Kd.N_elder' (nz_ HO318.out) (kb_ ho0) hb); have n3_ := Aside0.mk (Kd.N_elder' (nz_ HO321.out) (kb_ ho0) hb); have n4_ := Aside0.mk (Kd.N_lower (Kd.N_mono (ok' := fun k_ => (w.heap.size ≤ k_) ∧ some k_ ≠ (.slice Ao65 t307.length co65 : Value).ownBlock ∧ some k_ ≠ (.slice Ao69 y313.length co69 : Value).ownBlock ∧ some k_ ≠ (v317 : Value).ownBlock ∧ some k_ ≠ (.slice Ao71 t319.length co71 : Value).ownBlock ∧ k_ ≠ gb256) ho0 (fun k_ hk_ => ⟨(Nat.le_trans (below_size (bg_ GE256.out)) hk_), (Kd.fresh' (Kd.N_lt (nz_ HO309.out)) k_ hk_), (Kd.fresh' (Kd.N_lt (nz_ HO315.out)) k_ hk_), (Kd.fresh' (Kd.N_lt (nz_ HO318.out)) k_ hk_), (Kd.fresh' (Kd.N_lt (nz_ HO321.out)) k_ hk_), (Kd.freshB (g := gb256) (o := .cells #[.int .i64 ((rd_T49 l0 a1).f0), .slice A255_1 ((rd_T49 l0 a1).f1).length c255_1] 49 (0, 0)) (kz_ BK256.out) k_ hk_)⟩)) (below_size (bg_ GE256.out))); have n5_ := Aside0.mk (blk_below (g := gb256) (o := .cells #[.int .i64 ((rd_T49 l0 a1).f0), .slice A255_1 ((rd_T49 l0 a1).f1).length c255_1] 49 (0, 0)) (kz_ BK256.out) hb); have n6_ := Aside0.mk (below_step (bg_ GE256.out) hb); clear HO309; clear HO315; clear HO318; clear HO321; clear BK256; clear HB; have HO309 := n0_; have HO315 := n1_; have HO318 := n2_; have HO321 := n3_; have HO325 := n4_; have BK256 := n5_; have HB := n6_; clear n0_ n1_ n2_ n3_ n4_ n5_ n6_; (try clear ho0); obtain ⟨Ao75, co75, eo75⟩ := Kd.N_slice HO325.out; subst eo75) | ((with_reducible refine gate_builtin (b := .append) (xs := #[.tmp 90, .tmp 95]) rfl ?_); at_builtin; refine Kd.N_append_rows k49 (w0 := w) w.heap.size rfl (.tmp 90) (.tmp 95) 25 49 (.agg #[(.int .i64 0), (.slice none 0 0)]) 32 rfl Try.underlying25 info49 rfl (by decide) (by omega) v317 y316 t323 _ _ _ (fun k_ => (w.heap.size ≤ k_) ∧ some k_ ≠ (.slice Ao71 t319.length co71 : Value).ownBlock ∧ k_ ≠ gb256) (fun k_ => ((fun k_ => (w.heap.size ≤ k_) ∧ some k_ ≠ (.slice Ao71 t319.length co71 : Value).ownBlock ∧ k_ ≠ gb256)) k_ ∧ some k_ ≠ (v317 : Value).ownBlock) rfl rfl ?aO ?aR (fun _ hk => hk) ?aF ?aB ?aS ?aL ?_; (case aR => exact (by skip; exact Kd.N_F (Kd.N_mono (ok' := (fun k_ => ((fun k_ => (w.heap.size ≤ k_) ∧ some k_ ≠ (.slice Ao71 t319.length co71 : Value).ownBlock ∧ k_ ≠ gb256)) k_ ∧ some k_ ≠ (v317 : Value).ownBlock)) (HO325.out) (fun k_ hk => ⟨⟨hk.1, ⟨hk.2.2.2.2.1, hk.2.2.2.2.2⟩⟩, hk.2.2.2.1⟩)))); (case aB => exact (bg_ GE256.out)); (case aF => exact (fun k_ hk => ⟨(Nat.le_trans (below_size (bg_ GE256.out)) hk), Kd.fresh' (Kd.N_lt (nz_ HO321.out)) k_ hk, Kd.freshB (g := gb256) (o := .cells #[.int .i64 ((rd_T49 l0 a1).f0), .slice A255_1 ((rd_T49 l0 a1).f1).length c255_1] 49 (0, 0)) (kz_ BK256.out) k_ hk⟩)); (case aO => exact (by (with_reducible repeat (first | apply Kd.N_alloc | apply Kd.N_drewN | apply Kd.N_drew)); exact Kd.N_mono HO318.out (fun _ hk => ⟨hk.1.1.1, ⟨hk.1.2, hk.1.1.2⟩⟩))); (case aS => exact (below_size (bg_ GE256.out))); (case aL => have := LMc57.out; omega); intro v327 w74 ho hb hg hat; rw [← Ny326.out] at ho; have n0_ := Aside0.mk (blk_grown (g := gb256) (o := .cells #[.int .i64 ((rd_T49 l0 a1).f0), .slice A255_1 ((rd_T49 l0 a1).f1).length c255_1] 49 (0, 0)) (kz_ BK256.out) hg (Kd.N_away HO318.out (fun _ hk => hk.1.1.2))); have n1_ := Aside0.mk (Kd.N_afterv (ok := (fun k_ => (w.heap.size ≤ k_) ∧ some k_ ≠ (.slice Ao69 y313.length co69 : Value).ownBlock ∧ some k_ ≠ (.slice Ao71 t319.length co71 : Value).ownBlock ∧ some k_ ≠ (.slice Ao75 t323.length co75 : Value).ownBlock ∧ k_ ≠ gb256)) (by (with_reducible repeat (first | apply Kd.N_alloc | apply Kd.N_drewN | apply Kd.N_drew)); exact Kd.N_mono HO309.out (fun _ hk => ⟨⟨hk.1.1.1.1, ⟨hk.1.1.1.2.1, ⟨hk.1.2, ⟨hk.2, hk.1.1.1.2.2⟩⟩⟩⟩, hk.1.1.2⟩)) hg hat); have n2_ := Aside0.mk (Kd.N_afterv (ok := (fun k_ => (w.heap.size ≤ k_) ∧ some k_ ≠ (.slice Ao65 t307.length co65 : Value).ownBlock ∧ some k_ ≠ (.slice Ao71 t319.length co71 : Value).ownBlock ∧ some k_ ≠ (.slice Ao75 t323.length co75 : Value).ownBlock ∧ k_ ≠ gb256)) (by (with_reducible repeat (first | apply Kd.N_alloc | apply Kd.N_drewN | apply Kd.N_drew)); exact Kd.N_mono HO315.out (fun _ hk => ⟨⟨hk.1.1.1.1, ⟨hk.1.1.1.2.1, ⟨hk.1.2, ⟨hk.2, hk.1.1.1.2.2⟩⟩⟩⟩, hk.1.1.2⟩)) hg hat); have n3_ := Aside0.mk (Kd.N_afterv (ok := (fun k_ => (w.heap.size ≤ k_) ∧ some k_ ≠ (.slice Ao65 t307.length co65 : Value).ownBlock ∧ some k_ ≠ (.slice Ao69 y313.length co69 : Value).ownBlock ∧ some k_ ≠ (.slice Ao75 t323.length co75 : Value).ownBlock ∧ k_ ≠ gb256)) (by (with_reducible repeat (first | apply Kd.N_alloc | apply Kd.N_drewN | apply Kd.N_drew)); exact Kd.N_mono HO321.out (fun _ hk => ⟨⟨hk.1.1, ⟨hk.1.2.1, ⟨hk.1.2.2.1, ⟨hk.2, hk.1.2.2.2.2⟩⟩⟩⟩, hk.1.2.2.2.1⟩)) hg hat); have n4_ := Aside0.mk (Kd.N_afterv (ok := (fun k_ => (w.heap.size ≤ k_) ∧ some k_ ≠ (.slice Ao65 t307.length co65 : Value).ownBlock ∧ some k_ ≠ (.slice Ao69 y313.length co69 : Value).ownBlock ∧ some k_ ≠ (.slice Ao71 t319.length co71 : Value).ownBlock ∧ k_ ≠ gb256)) (by (with_reducible repeat (first | apply Kd.N_alloc | apply Kd.N_drewN | apply Kd.N_drew)); exact Kd.N_mono HO325.out (fun _ hk => ⟨⟨hk.1, ⟨hk.2.1, ⟨hk.2.2.1, ⟨hk.2.2.2.2.1, hk.2.2.2.2.2⟩⟩⟩⟩, hk.2.2.2.1⟩)) hg hat); have n5_ := Aside0.mk (hb); have n6_ := Aside0.mk (ho); clear BK256; clear HO309; clear HO315; clear HO321; clear HO325; clear HB; clear HO318; have BK256 := n0_; have HO309 := n1_; have HO315 := n2_; have HO321 := n3_; have HO325 := n4_; have HB := n5_; have HO328 := n6_; clear n0_ n1_ n2_ n3_ n4_ n5_ n6_; clear ho hb hg hat) | ((with_reducible refine gate_dst (N := 98) rfl ?_); refine Kd.N_lit k49 _ 49 ?hg (N' := 98) ?hd (xs := ([(⟨4, ([] : List Int)⟩ : S49)] : List (S49))) (inner := [.int .i64 4, .slice none 0 0]) (ok := (fun k_ => (w.heap.size ≤ k_) ∧ some k_ ≠ (.slice Ao65 t307.length co65 : Value).ownBlock ∧ some k_ ≠ (.slice Ao69 y313.length co69 : Value).ownBlock ∧ some k_ ≠ (.slice Ao71 t319.length co71 : Value).ownBlock ∧ some k_ ≠ (.slice Ao75 t323.length co75 : Value).ownBlock ∧ some k_ ≠ (v327 : Value).ownBlock ∧ k_ ≠ gb256)) (okp := (fun k_ => (w.heap.size ≤ k_) ∧ some k_ ≠ (.slice Ao65 t307.length co65 : Value).ownBlock ∧ some k_ ≠ (.slice Ao69 y313.length co69 : Value).ownBlock ∧ some k_ ≠ (.slice Ao71 t319.length co71 : Value).ownBlock ∧ some k_ ≠ (.slice Ao75 t323.length co75 : Value).ownBlock ∧ some k_ ≠ (v327 : Value).ownBlock ∧ k_ ≠ gb256)) ?hr ?hp (fun _ hk => hk) (by exact ((show ∀ k_, (_ : World).heap.size ≤ k_ → (fun k_ => (w.heap.size ≤ k_) ∧ some k_ ≠ (.slice Ao65 t307.length co65 : Value).ownBlock ∧ some k_ ≠ (.slice Ao69 y313.length co69 : Value).ownBlock ∧ some k_ ≠ (.slice Ao71 t319.length co71 : Value).ownBlock ∧ some k_ ≠ (.slice Ao75 t323.length co75 : Value).ownBlock ∧ some k_ ≠ (v327 : Value).ownBlock ∧ k_ ≠ gb256) k_ from fun k_ hk => ⟨(Nat.le_trans (below_size (bg_ GE256.out)) hk), Kd.fresh' (Kd.N_lt (nz_ HO309.out)) k_ hk, Kd.fresh' (Kd.N_lt (nz_ HO315.out)) k_ hk, Kd.fresh' (Kd.N_lt (nz_ HO321.out)) k_ hk, Kd.fresh' (Kd.N_lt (nz_ HO325.out)) k_ hk, Kd.fresh' (Kd.N_lt (nz_ HO328.out)) k_ hk, Kd.freshB (g := gb256) (o := .cells #[.int .i64 ((rd_T49 l0 a1).f0), .slice A255_1 ((rd_T49 l0 a1).f1).length c255_1] 49 (0, 0)) (kz_ BK256.out) k_ hk⟩) _ (Nat.le_refl _))) (Below.refl _ _) (Nat.le_refl _) (by simp) ?_; (case hd => rfl); (case hg => rfl); (case hr => first | (go_simp; done) | (go_simp; rfl)); (case hp => exact (Reps.c2 (show Kd.FK k49 _ _ (⟨4, ([] : List Int)⟩ : S49) [.int .i64 4, .slice none 0 0] from (k49_mkF _ _ (⟨4, ([] : List Int)⟩ : S49) (Nat.le_refl _) (Kd.F_nil _ _ _))) (Reps.none _ _))); intro v330 w76 ho77 hb hg_ hnew_; clear hg_ hnew_; (first | rw [← Ny329.out] at ho77 | (simp only [Int.reduceToNat] at ho77; rw [← Ny329.out] at ho77)); have n0_ := Aside0.mk (Kd.N_elder' (nz_ HO309.out) (kb_ ho77) hb); have n1_ := Aside0.mk (Kd.N_elder' (nz_ HO315.out) (kb_ ho77) hb); have n2_ := Aside0.mk (Kd.N_elder' (nz_ HO321.out) (kb_ ho77) hb); have n3_ := Aside0.mk (Kd.N_elder' (nz_ HO325.out) (kb_ ho77) hb); have n4_ := Aside0.mk (Kd.N_elder' (nz_ HO328.out) (kb_ ho77) hb); have n5_ := Aside0.mk (Kd.N_lower ho77 (below_size (bg_ GE256.out))); have n6_ := Aside0.mk (blk_below (g := gb256) (o := .cells #[.int .i64 ((rd_T49 l0 a1).f0), .slice A255_1 ((rd_T49 l0 a1).f1).length c255_1] 49 (0, 0)) (kz_ BK256.out) hb); have n7_ := Aside0.mk (below_step (bg_ GE256.out) hb); clear HO309; clear HO315; clear HO321; clear HO325; clear HO328; clear BK256; clear HB; have HO309 := n0_; have HO315 := n1_; have HO321 := n2_; have HO325 := n3_; have HO328 := n4_; have HO331 := n5_; have BK256 := n6_; have HB := n7_; clear n0_ n1_ n2_ n3_ n4_ n5_ n6_ n7_; clear hb ho77; obtain ⟨Ao79, co79, eo79⟩ := Kd.N_slice HO331.out; subst eo79) | ((with_reducible refine gate_builtin (b := .append) (xs := #[.tmp 96, .tmp 98]) rfl ?_); at_builtin; refine Kd.N_append_rows k49 (w0 := w) w.heap.size rfl (.tmp 96) (.tmp 98) 25 49 (.agg #[(.int .i64 0), (.slice none 0 0)]) 32 rfl Try.underlying25 info49 rfl (by decide) (by omega) v327 y326 y329 _ _ _ (fun k_ => (w.heap.size ≤ k_) ∧ some k_ ≠ (.slice Ao71 t319.length co71 : Value).ownBlock ∧ k_ ≠ gb256) (fun k_ => ((fun k_ => (w.heap.size ≤ k_) ∧ some k_ ≠ (.slice Ao71 t319.length co71 : Value).ownBlock ∧ k_ ≠ gb256)) k_ ∧ some k_ ≠ (v327 : Value).ownBlock) rfl rfl ?aO ?aR (fun _ hk => hk) ?aF ?aB ?aS ?aL ?_; (case aR => exact (by skip; exact Kd.N_F (Kd.N_mono (ok' := (fun k_ => ((fun k_ => (w.heap.size ≤ k_) ∧ some k_ ≠ (.slice Ao71 t319.length co71 : Value).ownBlock ∧ k_ ≠ gb256)) k_ ∧ some k_ ≠ (v327 : Value).ownBlock)) (HO331.out) (fun k_ hk => ⟨⟨hk.1, ⟨hk.2.2.2.1, hk.2.2.2.2.2.2⟩⟩, hk.2.2.2.2.2.1⟩)))); (case aB => exact (bg_ GE256.out)); (case aF => exact (fun k_ hk => ⟨(Nat.le_trans (below_size (bg_ GE256.out)) hk), Kd.fresh' (Kd.N_lt (nz_ HO321.out)) k_ hk, Kd.freshB (g := gb256) (o := .cells #[.int .i64 ((rd_T49 l0 a1).f0), .slice A255_1 ((rd_T49 l0 a1).f1).length c255_1] 49 (0, 0)) (kz_ BK256.out) k_ hk⟩)); (case aO => exact (by (with_reducible repeat (first | apply Kd.N_alloc | apply Kd.N_drewN | apply Kd.N_drew)); exact Kd.N_mono HO328.out (fun _ hk => ⟨hk.1.1, ⟨hk.1.2.1, hk.1.2.2⟩⟩))); (case aS => exact (below_size (bg_ GE256.out))); (case aL => have := LMc58.out; omega); intro v333 w78 ho hb hg hat; rw [← Ny332.out] at ho; have n0_ := Aside0.mk (blk_grown (g := gb256) (o := .cells #[.int .i64 ((rd_T49 l0 a1).f0), .slice A255_1 ((rd_T49 l0 a1).f1).length c255_1] 49 (0, 0)) (kz_ BK256.out) hg (Kd.N_away HO328.out (fun _ hk => hk.1.2.2))); have n1_ := Aside0.mk (Kd.N_afterv (ok := (fun k_ => (w.heap.size ≤ k_) ∧ some k_ ≠ (.slice Ao69 y313.length co69 : Value).ownBlock ∧ some k_ ≠ (.slice Ao71 t319.length co71 : Value).ownBlock ∧ some k_ ≠ (.slice Ao75 t323.length co75 : Value).ownBlock ∧ some k_ ≠ (.slice Ao79 y329.length co79 : Value).ownBlock ∧ k_ ≠ gb256)) (by (with_reducible repeat (first | apply Kd.N_alloc | apply Kd.N_drewN | apply Kd.N_drew)); exact Kd.N_mono HO309.out (fun _ hk => ⟨⟨hk.1.1.1, ⟨hk.1.1.2.1, ⟨hk.1.1.2.2.1, ⟨hk.1.1.2.2.2.1, ⟨hk.2, hk.1.1.2.2.2.2⟩⟩⟩⟩⟩, hk.1.2⟩)) hg hat); have n2_ := Aside0.mk (Kd.N_afterv (ok := (fun k_ => (w.heap.size ≤ k_) ∧ some k_ ≠ (.slice Ao65 t307.length co65 : Value).ownBlock ∧ some k_ ≠ (.slice Ao71 t319.length co71 : Value).ownBlock ∧ some k_ ≠ (.slice Ao75 t323.length co75 : Value).ownBlock ∧ some k_ ≠ (.slice Ao79 y329.length co79 : Value).ownBlock ∧ k_ ≠ gb256)) (by (with_reducible repeat (first | apply Kd.N_alloc | apply Kd.N_drewN | apply Kd.N_drew)); exact Kd.N_mono HO315.out (fun _ hk => ⟨⟨hk.1.1.1, ⟨hk.1.1.2.1, ⟨hk.1.1.2.2.1, ⟨hk.1.1.2.2.2.1, ⟨hk.2, hk.1.1.2.2.2.2⟩⟩⟩⟩⟩, hk.1.2⟩)) hg hat); have n3_ := Aside0.mk (Kd.N_afterv (ok := (fun k_ => (w.heap.size ≤ k_) ∧ some k_ ≠ (.slice Ao65 t307.length co65 : Value).ownBlock ∧ some k_ ≠ (.slice Ao69 y313.length co69 : Value).ownBlock ∧ some k_ ≠ (.slice Ao75 t323.length co75 : Value).ownBlock ∧ some k_ ≠ (.slice Ao79 y329.length co79 : Value).ownBlock ∧ k_ ≠ gb256)) (by (with_reducible repeat (first | apply Kd.N_alloc | apply Kd.N_drewN | apply Kd.N_drew)); exact Kd.N_mono HO321.out (fun _ hk => ⟨⟨hk.1.1.1, ⟨hk.1.1.2.1, ⟨hk.1.1.2.2.1, ⟨hk.1.1.2.2.2.1, ⟨hk.2, hk.1.1.2.2.2.2⟩⟩⟩⟩⟩, hk.1.2⟩)) hg hat); have n4_ := Aside0.mk (Kd.N_afterv (ok := (fun k_ => (w.heap.size ≤ k_) ∧ some k_ ≠ (.slice Ao65 t307.length co65 : Value).ownBlock ∧ some k_ ≠ (.slice Ao69 y313.length co69 : Value).ownBlock ∧ some k_ ≠ (.slice Ao71 t319.length co71 : Value).ownBlock ∧ some k_ ≠ (.slice Ao79 y329.length co79 : Value).ownBlock ∧ k_ ≠ gb256)) (by (with_reducible repeat (first | apply Kd.N_alloc | apply Kd.N_drewN | apply Kd.N_drew)); exact Kd.N_mono HO325.out (fun _ hk => ⟨⟨hk.1.1.1, ⟨hk.1.1.2.1, ⟨hk.1.1.2.2.1, ⟨hk.1.1.2.2.2.1, ⟨hk.2, hk.1.1.2.2.2.2⟩⟩⟩⟩⟩, hk.1.2⟩)) hg hat); have n5_ := Aside0.mk (Kd.N_afterv (ok := (fun k_ => (w.heap.size ≤ k_) ∧ some k_ ≠ (.slice Ao65 t307.length co65 : Value).ownBlock ∧ some k_ ≠ (.slice Ao69 y313.length co69 : Value).ownBlock ∧ some k_ ≠ (.slice Ao71 t319.length co71 : Value).ownBlock ∧ some k_ ≠ (.slice Ao75 t323.length co75 : Value).ownBlock ∧ k_ ≠ gb256)) (by (with_reducible repeat (first | apply Kd.N_alloc | apply Kd.N_drewN | apply Kd.N_drew)); exact Kd.N_mono HO331.out (fun _ hk => ⟨⟨hk.1, ⟨hk.2.1, ⟨hk.2.2.1, ⟨hk.2.2.2.1, ⟨hk.2.2.2.2.1, hk.2.2.2.2.2.2⟩⟩⟩⟩⟩, hk.2.2.2.2.2.1⟩)) hg hat); have n6_ := Aside0.mk (hb); have n7_ := Aside0.mk (ho); clear BK256; clear HO309; clear HO315; clear HO321; clear HO325; clear HO331; clear HB; clear HO328; have BK256 := n0_; have HO309 := n1_; have HO315 := n2_; have HO321 := n3_; have HO325 := n4_; have HO331 := n5_; have HB := n6_; have HO334 := n7_; clear n0_ n1_ n2_ n3_ n4_ n5_ n6_ n7_; clear ho hb hg hat))
             go_ret
             exact ⟨_, rr_, by (with_reducible repeat (first | apply Kd.N_alloc | apply Kd.N_drewN | apply Kd.N_drew)); exact Kd.N_mono HO334.out (fun _ hk => hk.1), bg_ GE256.out⟩
            ·rw [if_neg c58] at H
             exact absurd H (by simp)
           ·rw [if_neg c57] at H
            exact absurd H (by simp)
          ·replace c55 := Bool.eq_false_iff.mpr c55
           subst c55
           have H1 := H
           rw [if_neg (show ¬ (false = true) by decide)] at H1
           clear H
           have H := H1
           clear H1
           obtain rfl := Option.some.inj H
           have p255 : 0 ≤ (a1 : Int) := of_decide_eq_true az_
           have q255 : a1 < (l0.length : Int) := of_decide_eq_true az_
           obtain ⟨ad255, A255_1, c255_1, e255, hx255_0, hx255_1, hl255_1, hi255_1⟩ := at_T49 HR0.out a1 p255 q255
           cases e255
           have HR255_1 := Aside0.mk hi255_1
           have HC255_1 := Aside0.mk hl255_1
           clear hi255_1 hl255_1
           replace p255 := eq_true p255
           replace q255 := eq_true q255
           go_enter Try.func74, Try.ntmps74
           go_wp2_with (first | ((with_reducible refine gate_dst (N := 7) rfl ?_); refine box_event ?hg (N := 7) ?hd (cs := #[.int .i64 0, .slice none 0 0]) (t := 49) ?hr ?_; (case hd => rfl); (case hg => rfl); (case hr => first | (go_simp; done) | (go_simp; rfl)); intro gb256 hg w80 hbox hb; have n0_ := Aside0.mk (below_step bz_ hb); have n1_ := Aside0.mk (hbox); have n2_ := Aside0.mk ((hz_ hg : w.heap.size ≤ gb256)); have n3_ := Aside0.mk ((hz_ hg : w.heap.size ≤ gb256)); clear HB; have HB := n0_; have BK256 := n1_; have GW256 := n2_; have GE256 := n3_; clear n0_ n1_ n2_ n3_; clear hb hbox hg; have hcz81_0 : w80.cell? ⟨gb256, 0, none⟩ = some (.int .i64 0) := (blk_cell BK256.out 0).trans rfl; have hcz81_1 : w80.cell? ⟨gb256, 1, none⟩ = some (.slice none 0 0) := (blk_cell BK256.out 1).trans rfl; have hfz81_0 := blk_frozen BK256.out 0; have hfz81_1 := blk_frozen BK256.out 1) | ((with_reducible refine gate_callee (f := 94) rfl ?_); refine goesL_ (some 57) rfl rfl Try.func94 (by kernel_rfl) rfl #[.slice (some ad255) l0.length c0, .int .i64 a1] rfl mz_ ?_; (with_reducible refine (spec_l5First.calls k _ _ l0 a1 t291 _ ?side1 ?side2 A47.out).mono ?_); (case side1 => exact Kd.C_below HR0.out (bg_ GE256.out)); (case side2 => exact HC0.out); rintro e w' ⟨rfl, ⟨nd, rfl⟩⟩; refine ⟨_, rfl, ?_⟩) | ((with_reducible refine gate_callee (f := 74) rfl ?_); refine goesL_ (some 61) rfl rfl Try.func74 (by kernel_rfl) rfl #[.slice (some ad255) l0.length c0, .int .i64 t291, .int .i64 a2] rfl mz_ ?_; (with_reducible refine (ih k (by omega) _ _ l0 t291 a2 t292 _ ?side1 ?side2 A48.out).mono ?_); (case side1 => exact Kd.C_below HR0.out (bg_ GE256.out)); (case side2 => exact HC0.out); rintro e w82 ⟨v293, rfl, ho0, hb⟩; refine ⟨_, rfl, ?_⟩; have n0_ := Aside0.mk (Kd.N_lower (Kd.N_mono (ok' := fun k_ => (w.heap.size ≤ k_) ∧ k_ ≠ gb256) ho0 (fun k_ hk_ => ⟨(Nat.le_trans (below_size (bg_ GE256.out)) hk_), (Kd.freshB (g := gb256) (o := .cells #[.int .i64 ((rd_T49 l0 a1).f0), .slice A255_1 ((rd_T49 l0 a1).f1).length c255_1] 49 (0, 0)) (by (with_reducible repeat (first | refine blk_drewN ?_ _ | refine blk_drew ?_ | refine blk_alloc ?_ _)); refine blk_put (cs := #[.int .i64 ((rd_T49 l0 a1).f0), .slice none 0 0]) ?_ 1 _ rfl; (with_reducible repeat (first | refine blk_drewN ?_ _ | refine blk_drew ?_ | refine blk_alloc ?_ _)); refine blk_put (cs := #[.int .i64 0, .slice none 0 0]) ?_ 0 _ rfl; (with_reducible repeat (first | refine blk_drewN ?_ _ | refine blk_drew ?_ | refine blk_alloc ?_ _)); exact BK256.out) k_ hk_)⟩)) (below_size (bg_ GE256.out))); have n1_ := Aside0.mk (blk_below (g := gb256) (o := .cells #[.int .i64 ((rd_T49 l0 a1).f0), .slice A255_1 ((rd_T49 l0 a1).f1).length c255_1] 49 (0, 0)) (by (with_reducible repeat (first | refine blk_drewN ?_ _ | refine blk_drew ?_ | refine blk_alloc ?_ _)); refine blk_put (cs := #[.int .i64 ((rd_T49 l0 a1).f0), .slice none 0 0]) ?_ 1 _ rfl; (with_reducible repeat (first | refine blk_drewN ?_ _ | refine blk_drew ?_ | refine blk_alloc ?_ _)); refine blk_put (cs := #[.int .i64 0, .slice none 0 0]) ?_ 0 _ rfl; (with_reducible repeat (first | refine blk_drewN ?_ _ | refine blk_drew ?_ | refine blk_alloc ?_ _)); exact BK256.out) hb); have n2_ := Aside0.mk (below_step (bg_ GE256.out) hb); clear BK256; clear HB; have HO294 := n0_; have BK256 := n1_; have HB := n2_; clear n0_ n1_ n2_; (try clear ho0); have hcz83_0 : w82.cell? ⟨gb256, 0, none⟩ = some (.int .i64 ((rd_T49 l0 a1).f0)) := (blk_cell BK256.out 0).trans rfl; have hcz83_1 : w82.cell? ⟨gb256, 1, none⟩ = some (.slice A255_1 ((rd_T49 l0 a1).f1).length c255_1) := (blk_cell BK256.out 1).trans rfl; have hfz83_0 := blk_frozen BK256.out 0; have hfz83_1 := blk_frozen BK256.out 1) | ((with_reducible refine gate_callee (f := 107) rfl ?_); refine goesL_ (some 81) rfl rfl Try.func107 (by kernel_rfl) rfl #[.slice (some ad255) l0.length c0, .int .i64 (wrap64 (a1 - 1))] rfl mz_ ?_; (with_reducible refine (spec_l5Part.calls k _ _ l0 (wrap64 (a1 - 1)) t307 _ ?side1 ?side2 A50.out).mono ?_); (case side1 => exact cy_ HR0.out HB.out); (case side2 => exact HC0.out); rintro e w84 ⟨v308, rfl, ho0, hb⟩; refine ⟨_, rfl, ?_⟩; have n0_ := Aside0.mk (Kd.N_elder' (nz_ HO294.out) (kb_ ho0) hb); have n1_ := Aside0.mk (Kd.N_lower (Kd.N_mono (ok' := fun k_ => (w.heap.size ≤ k_) ∧ some k_ ≠ (v293 : Value).ownBlock ∧ k_ ≠ gb256) (Kd.S_N (Kd.S_bound ho0)) (fun k_ hk_ => ⟨(Nat.le_trans (below_size (bg_ GE256.out)) hk_.2.1), (Kd.fresh' (Kd.N_lt (nz_ HO294.out)) k_ hk_.2.1), (Kd.freshB (g := gb256) (o := .cells #[.int .i64 ((rd_T49 l0 a1).f0), .slice A255_1 ((rd_T49 l0 a1).f1).length c255_1] 49 (0, 0)) (kz_ BK256.out) k_ hk_.2.1)⟩)) (below_size (bg_ GE256.out))); have n2_ := Aside0.mk (blk_below (g := gb256) (o := .cells #[.int .i64 ((rd_T49 l0 a1).f0), .slice A255_1 ((rd_T49 l0 a1).f1).length c255_1] 49 (0, 0)) (kz_ BK256.out) hb); have n3_ := Aside0.mk (below_step (bg_ GE256.out) hb); clear HO294; clear BK256; clear HB; have HO294 := n0_; have HO309 := n1_; have BK256 := n2_; have HB := n3_; clear n0_ n1_ n2_ n3_; (try clear ho0); obtain ⟨Ao86, co86, eo86⟩ := Kd.N_slice HO309.out; subst eo86) | ((with_reducible refine gate_builtin (b := .append) (xs := #[.tmp 77, .tmp 81]) rfl ?_); at_builtin; refine Kd.N_append_rows k49 (w0 := w) w.heap.size rfl (.tmp 77) (.tmp 81) 25 49 (.agg #[(.int .i64 0), (.slice none 0 0)]) 32 rfl Try.underlying25 info49 rfl (by decide) (by omega) v293 t292 t307 _ _ _ (fun k_ => (w.heap.size ≤ k_) ∧ k_ ≠ gb256) (fun k_ => ((fun k_ => (w.heap.size ≤ k_) ∧ k_ ≠ gb256)) k_ ∧ some k_ ≠ (v293 : Value).ownBlock) rfl rfl ?aO ?aR (fun _ hk => hk) ?aF ?aB ?aS ?aL ?_; (case aR => exact (by skip; exact Kd.N_F (Kd.N_mono (ok' := (fun k_ => ((fun k_ => (w.heap.size ≤ k_) ∧ k_ ≠ gb256)) k_ ∧ some k_ ≠ (v293 : Value).ownBlock)) (HO309.out) (fun k_ hk => ⟨⟨hk.1, hk.2.2⟩, hk.2.1⟩)))); (case aB => exact (bg_ GE256.out)); (case aF => exact (fun k_ hk => ⟨(Nat.le_trans (below_size (bg_ GE256.out)) hk), Kd.freshB (g := gb256) (o := .cells #[.int .i64 ((rd_T49 l0 a1).f0), .slice A255_1 ((rd_T49 l0 a1).f1).length c255_1] 49 (0, 0)) (kz_ BK256.out) k_ hk⟩)); (case aO => exact (by (with_reducible repeat (first | apply Kd.N_alloc | apply Kd.N_drewN | apply Kd.N_drew)); exact Kd.N_mono HO294.out (fun _ hk => ⟨hk.1.1, hk.1.2⟩))); (case aS => exact (below_size (bg_ GE256.out))); (case aL => have := LMc51.out; omega); intro v311 w85 ho hb hg hat; rw [← Ny310.out] at ho; have n0_ := Aside0.mk (blk_grown (g := gb256) (o := .cells #[.int .i64 ((rd_T49 l0 a1).f0), .slice A255_1 ((rd_T49 l0 a1).f1).length c255_1] 49 (0, 0)) (kz_ BK256.out) hg (Kd.N_away HO294.out (fun _ hk => hk.1.2))); have n1_ := Aside0.mk (Kd.N_afterv (ok := (fun k_ => (w.heap.size ≤ k_) ∧ k_ ≠ gb256)) (by (with_reducible repeat (first | apply Kd.N_alloc | apply Kd.N_drewN | apply Kd.N_drew)); exact Kd.N_mono HO309.out (fun _ hk => ⟨⟨hk.1, hk.2.2⟩, hk.2.1⟩)) hg hat); have n2_ := Aside0.mk (hb); have n3_ := Aside0.mk (ho); clear BK256; clear HO309; clear HB; clear HO294; have BK256 := n0_; have HO309 := n1_; have HB := n2_; have HO312 := n3_; clear n0_ n1_ n2_ n3_; clear ho hb hg hat) | ((with_reducible refine gate_dst (N := 84) rfl ?_); refine Kd.N_lit k49 _ 49 ?hg (N' := 84) ?hd (xs := ([(⟨3, ([] : List Int)⟩ : S49)] : List (S49))) (inner := [.int .i64 3, .slice none 0 0]) (ok := (fun k_ => (w.heap.size ≤ k_) ∧ some k_ ≠ (.slice Ao86 t307.length co86 : Value).ownBlock ∧ some k_ ≠ (v311 : Value).ownBlock ∧ k_ ≠ gb256)) (okp := (fun k_ => (w.heap.size ≤ k_) ∧ some k_ ≠ (.slice Ao86 t307.length co86 : Value).ownBlock ∧ some k_ ≠ (v311 : Value).ownBlock ∧ k_ ≠ gb256)) ?hr ?hp (fun _ hk => hk) (by exact ((show ∀ k_, (_ : World).heap.size ≤ k_ → (fun k_ => (w.heap.size ≤ k_) ∧ some k_ ≠ (.slice Ao86 t307.length co86 : Value).ownBlock ∧ some k_ ≠ (v311 : Value).ownBlock ∧ k_ ≠ gb256) k_ from fun k_ hk => ⟨(Nat.le_trans (below_size (bg_ GE256.out)) hk), Kd.fresh' (Kd.N_lt (nz_ HO309.out)) k_ hk, Kd.fresh' (Kd.N_lt (nz_ HO312.out)) k_ hk, Kd.freshB (g := gb256) (o := .cells #[.int .i64 ((rd_T49 l0 a1).f0), .slice A255_1 ((rd_T49 l0 a1).f1).length c255_1] 49 (0, 0)) (kz_ BK256.out) k_ hk⟩) _ (Nat.le_refl _))) (Below.refl _ _) (Nat.le_refl _) (by simp) ?_; (case hd => rfl); (case hg => rfl); (case hr => first | (go_simp; done) | (go_simp; rfl)); (case hp => exact (Reps.c2 (show Kd.FK k49 _ _ (⟨3, ([] : List Int)⟩ : S49) [.int .i64 3, .slice none 0 0] from (k49_mkF _ _ (⟨3, ([] : List Int)⟩ : S49) (Nat.le_refl _) (Kd.F_nil _ _ _))) (Reps.none _ _))); intro v314 w87 ho88 hb hg_ hnew_; clear hg_ hnew_; (first | rw [← Ny313.out] at ho88 | (simp only [Int.reduceToNat] at ho88; rw [← Ny313.out] at ho88)); have n0_ := Aside0.mk (Kd.N_elder' (nz_ HO309.out) (kb_ ho88) hb); have n1_ := Aside0.mk (Kd.N_elder' (nz_ HO312.out) (kb_ ho88) hb); have n2_ := Aside0.mk (Kd.N_lower ho88 (below_size (bg_ GE256.out))); have n3_ := Aside0.mk (blk_below (g := gb256) (o := .cells #[.int .i64 ((rd_T49 l0 a1).f0), .slice A255_1 ((rd_T49 l0 a1).f1).length c255_1] 49 (0, 0)) (kz_ BK256.out) hb); have n4_ := Aside0.mk (below_step (bg_ GE256.out) hb); clear HO309; clear HO312; clear BK256; clear HB; have HO309 := n0_; have HO312 := n1_; have HO315 := n2_; have BK256 := n3_; have HB := n4_; clear n0_ n1_ n2_ n3_ n4_; clear hb ho88; obtain ⟨Ao90, co90, eo90⟩ := Kd.N_slice HO315.out; subst eo90) | ((with_reducible refine gate_builtin (b := .append) (xs := #[.tmp 82, .tmp 84]) rfl ?_); at_builtin; refine Kd.N_append_rows k49 (w0 := w) w.heap.size rfl (.tmp 82) (.tmp 84) 25 49 (.agg #[(.int .i64 0), (.slice none 0 0)]) 32 rfl Try.underlying25 info49 rfl (by decide) (by omega) v311 y310 y313 _ _ _ (fun k_ => (w.heap.size ≤ k_) ∧ k_ ≠ gb256) (fun k_ => ((fun k_ => (w.heap.size ≤ k_) ∧ k_ ≠ gb256)) k_ ∧ some k_ ≠ (v311 : Value).ownBlock) rfl rfl ?aO ?aR (fun _ hk => hk) ?aF ?aB ?aS ?aL ?_; (case aR => exact (by skip; exact Kd.N_F (Kd.N_mono (ok' := (fun k_ => ((fun k_ => (w.heap.size ≤ k_) ∧ k_ ≠ gb256)) k_ ∧ some k_ ≠ (v311 : Value).ownBlock)) (HO315.out) (fun k_ hk => ⟨⟨hk.1, hk.2.2.2⟩, hk.2.2.1⟩)))); (case aB => exact (bg_ GE256.out)); (case aF => exact (fun k_ hk => ⟨(Nat.le_trans (below_size (bg_ GE256.out)) hk), Kd.freshB (g := gb256) (o := .cells #[.int .i64 ((rd_T49 l0 a1).f0), .slice A255_1 ((rd_T49 l0 a1).f1).length c255_1] 49 (0, 0)) (kz_ BK256.out) k_ hk⟩)); (case aO => exact (by (with_reducible repeat (first | apply Kd.N_alloc | apply Kd.N_drewN | apply Kd.N_drew)); exact Kd.N_mono HO312.out (fun _ hk => ⟨hk.1.1, hk.1.2⟩))); (case aS => exact (below_size (bg_ GE256.out))); (case aL => have := LMc52.out; omega); intro v317 w89 ho hb hg hat; rw [← Ny316.out] at ho; have n0_ := Aside0.mk (blk_grown (g := gb256) (o := .cells #[.int .i64 ((rd_T49 l0 a1).f0), .slice A255_1 ((rd_T49 l0 a1).f1).length c255_1] 49 (0, 0)) (kz_ BK256.out) hg (Kd.N_away HO312.out (fun _ hk => hk.1.2))); have n1_ := Aside0.mk (Kd.N_afterv (ok := (fun k_ => (w.heap.size ≤ k_) ∧ some k_ ≠ (.slice Ao90 y313.length co90 : Value).ownBlock ∧ k_ ≠ gb256)) (by (with_reducible repeat (first | apply Kd.N_alloc | apply Kd.N_drewN | apply Kd.N_drew)); exact Kd.N_mono HO309.out (fun _ hk => ⟨⟨hk.1.1.1, ⟨hk.2, hk.1.1.2⟩⟩, hk.1.2⟩)) hg hat); have n2_ := Aside0.mk (Kd.N_afterv (ok := (fun k_ => (w.heap.size ≤ k_) ∧ some k_ ≠ (.slice Ao86 t307.length co86 : Value).ownBlock ∧ k_ ≠ gb256)) (by (with_reducible repeat (first | apply Kd.N_alloc | apply Kd.N_drewN | apply Kd.N_drew)); exact Kd.N_mono HO315.out (fun _ hk => ⟨⟨hk.1, ⟨hk.2.1, hk.2.2.2⟩⟩, hk.2.2.1⟩)) hg hat); have n3_ := Aside0.mk (hb); have n4_ := Aside0.mk (ho); clear BK256; clear HO309; clear HO315; clear HB; clear HO312; have BK256 := n0_; have HO309 := n1_; have HO315 := n2_; have HB := n3_; have HO318 := n4_; clear n0_ n1_ n2_ n3_ n4_; clear ho hb hg hat) | ((with_reducible refine gate_callee (f := 107) rfl ?_); refine goesL_ (some 88) rfl rfl Try.func107 (by kernel_rfl) rfl #[.slice (some ad255) l0.length c0, .int .i64 t291] rfl mz_ ?_; (with_reducible refine (spec_l5Part.calls k _ _ l0 t291 t319 _ ?side1 ?side2 A53.out).mono ?_); (case side1 => exact cy_ HR0.out HB.out); (case side2 => exact HC0.out); rintro e w91 ⟨v320, rfl, ho0, hb⟩; refine ⟨_, rfl, ?_⟩; have n0_ := Aside0.mk (Kd.N_elder' (nz_ HO309.out) (kb_ ho0) hb); have n1_ := Aside0.mk (Kd.N_elder' (nz_ HO315.out) (kb_ ho0) hb); have n2_ := Aside0.mk (Kd.N_elder' (nz_ HO318.out) (kb_ ho0) hb); have n3_ := Aside0.mk (Kd.N_lower (Kd.N_mono (ok' := fun k_ => (w.heap.size ≤ k_) ∧ some k_ ≠ (.slice Ao86 t307.length co86 : Value).ownBlock ∧ some k_ ≠ (.slice Ao90 y313.length co90 : Value).ownBlock ∧ some k_ ≠ (v317 : Value).ownBlock ∧ k_ ≠ gb256) (Kd.S_N (Kd.S_bound ho0)) (fun k_ hk_ => ⟨(Nat.le_trans (below_size (bg_ GE256.out)) hk_.2.1), (Kd.fresh' (Kd.N_lt (nz_ HO309.out)) k_ hk_.2.1), (Kd.fresh' (Kd.N_lt (nz_ HO315.out)) k_ hk_.2.1), (Kd.fresh' (Kd.N_lt (nz_ HO318.out)) k_ hk_.2.1), (Kd.freshB (g := gb256) (o := .cells #[.int .i64 ((rd_T49 l0 a1).f0), .slice A255_1 ((rd_T49 l0 a1).f1).length c255_1] 49 (0, 0)) (kz_ BK256.out) k_ hk_.2.1)⟩)) (below_size (bg_ GE256.out))); have n4_ := Aside0.mk (blk_below (g := gb256) (o := .cells #[.int .i64 ((rd_T49 l0 a1).f0), .slice A255_1 ((rd_T49 l0 a1).f1).length c255_1] 49 (0, 0)) (kz_ BK256.out) hb); have n5_ := Aside0.mk (below_step (bg_ GE256.out) hb); clear HO309; clear HO315; clear HO318; clear BK256; clear HB; have HO309 := n0_; have HO315 := n1_; have HO318 := n2_; have HO321 := n3_; have BK256 := n4_; have HB := n5_; clear n0_ n1_ n2_ n3_ n4_ n5_; (try clear ho0); obtain ⟨Ao92, co92, eo92⟩ := Kd.N_slice HO321.out; subst eo92) | ((with_reducible refine gate_callee (f := 61) rfl ?_); refine goesL_ (some 89) rfl rfl Try.func61 (by kernel_rfl) rfl #[.slice Ao92 t319.length co92, .slice none 0 0] rfl mz_ ?_; (refine (spec_l5Matches.calls k _ _ t319 _ _ ([] : List Int) false _ ?side1 ?side2 ?side3 ?side4 A54.out).mono ?_); (case side1 => repeat (first | exact (Kd.N_reads' HO321.out).2.2 | (with_reducible refine Kd.C_alloc ?_ _) | (with_reducible refine Kd.C_drewN ?_ _) | (with_reducible refine Kd.C_drew ?_))); (case side2 => exact (Kd.N_reads' HO321.out).2.1); (case side3 => exact Kd.C_nil _ _); (case side4 => exact Nat.le_refl _); rintro e w93 ⟨rfl, hb⟩; refine ⟨_, rfl, ?_⟩; have n0_ := Aside0.mk (Kd.N_below (nz_ HO309.out) hb); have n1_ := Aside0.mk (Kd.N_below (nz_ HO315.out) hb); have n2_ := Aside0.mk (Kd.N_below (nz_ HO318.out) hb); have n3_ := Aside0.mk (Kd.N_below (nz_ HO321.out) hb); have n4_ := Aside0.mk (blk_below (g := gb256) (o := .cells #[.int .i64 ((rd_T49 l0 a1).f0), .slice A255_1 ((rd_T49 l0 a1).f1).length c255_1] 49 (0, 0)) (kz_ BK256.out) hb); have n5_ := Aside0.mk (below_step (bg_ GE256.out) hb); clear HO309; clear HO315; clear HO318; clear HO321; clear BK256; clear HB; have HO309 := n0_; have HO315 := n1_; have HO318 := n2_; have HO321 := n3_; have BK256 := n4_; have HB := n5_; clear n0_ n1_ n2_ n3_ n4_ n5_; ))
           go_ret
           exact ⟨_, rr_, by (with_reducible repeat (first | apply Kd.N_alloc | apply Kd.N_drewN | apply Kd.N_drew)); exact Kd.N_mono HO318.out (fun _ hk => hk.1.1), bg_ GE256.out⟩
         ·rw [if_neg c52] at H
          exact absurd H (by simp)
        ·rw [if_neg c51] at H
         exact absurd H (by simp)
       ·rw [if_neg c49] at H
        have c49b0 := q3_ c49
        have c49b1 := q4_ c49
        replace H := Option.bind_eq_some_iff.mp H
        obtain ⟨t295, A940, H⟩ := H
        try dsimp only at H
        have A94 := Aside0.mk A940
        clear A940
        by_cases c95 : t292.length + t295.length < 4398046511104
        ·rw [if_pos c95] at H
         have LMc95 := Aside0.mk c95
         clear c95
         obtain ⟨y298, hy298⟩ : ∃ y_ : List (S49), y_ = (t292 ++ t295) := ⟨_, rfl⟩
         replace H : ((some (([(⟨(rd_T49 l0 a1).f0, ([] : List Int)⟩ : S49)] : List (S49)) : List (S49))).bind fun y301 => (if y298.length + y301.length < 4398046511104 then (some (y298 ++ y301)) else (none))) = some r := yz_ hy298 H
         have Ny298 := Aside0.mk hy298
         clear hy298
         obtain ⟨y301, hy301⟩ : ∃ y_ : List (S49), y_ = (([(⟨(rd_T49 l0 a1).f0, ([] : List Int)⟩ : S49)] : List (S49))) := ⟨_, rfl⟩
         replace H : (if y298.length + y301.length < 4398046511104 then (some (y298 ++ y301)) else (none)) = some r := yz_ hy301 H
         have Ny301 := Aside0.mk hy301
         clear hy301
         by_cases c96 : y298.length + y301.length < 4398046511104
         ·rw [if_pos c96] at H
          have LMc96 := Aside0.mk c96
          clear c96
          obtain ⟨y304, hy304⟩ : ∃ y_ : List (S49), y_ = (y298 ++ y301) := ⟨_, rfl⟩
          replace H : (some y304) = some r := yz_ hy304 H
          have Ny304 := Aside0.mk hy304
          clear hy304
          obtain rfl := Option.some.inj H
          have p255 : 0 ≤ (a1 : Int) := of_decide_eq_true az_
          have q255 : a1 < (l0.length : Int) := of_decide_eq_true az_
          obtain ⟨ad255, A255_1, c255_1, e255, hx255_0, hx255_1, hl255_1, hi255_1⟩ := at_T49 HR0.out a1 p255 q255
          cases e255
          have HR255_1 := Aside0.mk hi255_1
          have HC255_1 := Aside0.mk hl255_1
          clear hi255_1 hl255_1
          replace p255 := eq_true p255
          replace q255 := eq_true q255
          go_enter Try.func74, Try.ntmps74
          try go_wp2_with (first | ((with_reducible refine gate_dst (N := 7) rfl ?_); refine box_event ?hg (N := 7) ?hd (cs := #[.int .i64 0, .slice none 0 0]) (t := 49) ?hr ?_; (case hd => rfl); (case hg => rfl); (case hr => first | (go_simp; done) | (go_simp; rfl)); intro gb256 hg w97 hbox hb; have n0_ := Aside0.mk (below_step bz_ hb); have n1_ := Aside0.mk (hbox); have n2_ := Aside0.mk ((hz_ hg : w.heap.size ≤ gb256)); have n3_ := Aside0.mk ((hz_ hg : w.heap.size ≤ gb256)); clear HB; have HB := n0_; have BK256 := n1_; have GW256 := n2_; have GE256 := n3_; clear n0_ n1_ n2_ n3_; clear hb hbox hg; have hcz98_0 : w97.cell? ⟨gb256, 0, none⟩ = some (.int .i64 0) := (blk_cell BK256.out 0).trans rfl; have hcz98_1 : w97.cell? ⟨gb256, 1, none⟩ = some (.slice none 0 0) := (blk_cell BK256.out 1).trans rfl; have hfz98_0 := blk_frozen BK256.out 0; have hfz98_1 := blk_frozen BK256.out 1) | ((with_reducible refine gate_callee (f := 94) rfl ?_); refine goesL_ (some 57) rfl rfl Try.func94 (by kernel_rfl) rfl #[.slice (some ad255) l0.length c0, .int .i64 a1] rfl mz_ ?_; (with_reducible refine (spec_l5First.calls k _ _ l0 a1 t291 _ ?side1 ?side2 A47.out).mono ?_); (case side1 => exact Kd.C_below HR0.out (bg_ GE256.out)); (case side2 => exact HC0.out); rintro e w' ⟨rfl, ⟨nd, rfl⟩⟩; refine ⟨_, rfl, ?_⟩) | ((with_reducible refine gate_callee (f := 74) rfl ?_); refine goesL_ (some 61) rfl rfl Try.func74 (by kernel_rfl) rfl #[.slice (some ad255) l0.length c0, .int .i64 t291, .int .i64 a2] rfl mz_ ?_; (with_reducible refine (ih k (by omega) _ _ l0 t291 a2 t292 _ ?side1 ?side2 A48.out).mono ?_); (case side1 => exact Kd.C_below HR0.out (bg_ GE256.out)); (case side2 => exact HC0.out); rintro e w99 ⟨v293, rfl, ho0, hb⟩; refine ⟨_, rfl, ?_⟩; have n0_ := Aside0.mk (Kd.N_lower (Kd.N_mono (ok' := fun k_ => (w.heap.size ≤ k_) ∧ k_ ≠ gb256) ho0 (fun k_ hk_ => ⟨(Nat.le_trans (below_size (bg_ GE256.out)) hk_), (Kd.freshB (g := gb256) (o := .cells #[.int .i64 ((rd_T49 l0 a1).f0), .slice A255_1 ((rd_T49 l0 a1).f1).length c255_1] 49 (0, 0)) (by (with_reducible repeat (first | refine blk_drewN ?_ _ | refine blk_drew ?_ | refine blk_alloc ?_ _)); refine blk_put (cs := #[.int .i64 ((rd_T49 l0 a1).f0), .slice none 0 0]) ?_ 1 _ rfl; (with_reducible repeat (first | refine blk_drewN ?_ _ | refine blk_drew ?_ | refine blk_alloc ?_ _)); refine blk_put (cs := #[.int .i64 0, .slice none 0 0]) ?_ 0 _ rfl; (with_reducible repeat (first | refine blk_drewN ?_ _ | refine blk_drew ?_ | refine blk_alloc ?_ _)); exact BK256.out) k_ hk_)⟩)) (below_size (bg_ GE256.out))); have n1_ := Aside0.mk (blk_below (g := gb256) (o := .cells #[.int .i64 ((rd_T49 l0 a1).f0), .slice A255_1 ((rd_T49 l0 a1).f1).length c255_1] 49 (0, 0)) (by (with_reducible repeat (first | refine blk_drewN ?_ _ | refine blk_drew ?_ | refine blk_alloc ?_ _)); refine blk_put (cs := #[.int .i64 ((rd_T49 l0 a1).f0), .slice none 0 0]) ?_ 1 _ rfl; (with_reducible repeat (first | refine blk_drewN ?_ _ | refine blk_drew ?_ | refine blk_alloc ?_ _)); refine blk_put (cs := #[.int .i64 0, .slice none 0 0]) ?_ 0 _ rfl; (with_reducible repeat (first | refine blk_drewN ?_ _ | refine blk_drew ?_ | refine blk_alloc ?_ _)); exact BK256.out) hb); have n2_ := Aside0.mk (below_step (bg_ GE256.out) hb); clear BK256; clear HB; have HO294 := n0_; have BK256 := n1_; have HB := n2_; clear n0_ n1_ n2_; (try clear ho0); have hcz100_0 : w99.cell? ⟨gb256, 0, none⟩ = some (.int .i64 ((rd_T49 l0 a1).f0)) := (blk_cell BK256.out 0).trans rfl; have hcz100_1 : w99.cell? ⟨gb256, 1, none⟩ = some (.slice A255_1 ((rd_T49 l0 a1).f1).length c255_1) := (blk_cell BK256.out 1).trans rfl; have hfz100_0 := blk_frozen BK256.out 0; have hfz100_1 := blk_frozen BK256.out 1; obtain ⟨Ao101, co101, eo101⟩ := Kd.N_slice HO294.out; subst eo101))
          have n0_ := Aside0.mk (Kd.N_drew HO294.out)
          have n1_ := Aside0.mk (blk_drew BK256.out)
          have n2_ := Aside0.mk (below_drew1 HB.out)
          clear HO294
          clear BK256
          clear HB
          have HO294 := n0_
          have BK256 := n1_
          have HB := n2_
          clear n0_ n1_ n2_
          refine start_ (n := 13) (S := fun w' => w'.cell? ⟨gb256, 0, none⟩ = some (.int .i64 ((rd_T49 l0 a1).f0)) ∧ w'.cell? ⟨gb256, 1, none⟩ = some (.slice A255_1 ((rd_T49 l0 a1).f1).length c255_1)) (ds := []) #[false, false, false, false, false, false, false, false, false, false, false, false, false] (by kernel_rfl) rfl rfl ⟨(blk_cell BK256.out 0).trans rfl, (blk_cell BK256.out 1).trans rfl⟩ (fun hHeld => ?_); refine with_tabW spec_l5Deriv.tab17 spec_l5Deriv.bits17 (fun HT_ HW_ => ?_)
          generalize w99.drew = w102 at HO294 BK256 HB hHeld ⊢
          refine pure_ (i := 0) (N := some 65) (v := ?_) (a' := ?_) #[true, false, false, false, false, false, false, false, false, false, false, false, false] rfl rfl (any_of HT_.out (by kernel_rfl)) (fun _ _ _ h => h) (Or.inl ⟨by rfl, ?_⟩) ?_ ?_
          rotate_left
          ·intro w'
           go_simp
           with_reducible rfl
          rotate_left
          ·simp only [Act.put, List.setIfInBounds_toArray, List.set_cons_zero, List.set_cons_succ, i64_w, i32_w]
           rfl
          refine pure_ (i := 1) (N := some 66) (v := ?_) (a' := ?_) #[true, true, false, false, false, false, false, false, false, false, false, false, false] rfl rfl (any_of HT_.out (by kernel_rfl)) (fun _ _ _ h => h) (Or.inl ⟨by rfl, ?_⟩) ?_ ?_
          rotate_left
          ·intro w'
           go_simp
           with_reducible rfl
          rotate_left
          ·simp only [Act.put, List.setIfInBounds_toArray, List.set_cons_zero, List.set_cons_succ, i64_w, i32_w]
           rfl
          refine pure_ (i := 2) (N := some 67) (v := ?_) (a' := ?_) #[true, true, true, false, false, false, false, false, false, false, false, false, false] rfl rfl (any_of HT_.out (by kernel_rfl)) (fun _ _ _ h => h) (Or.inl ⟨by rfl, ?_⟩) ?_ ?_
          rotate_left
          ·intro w'
           go_simp
           with_reducible rfl
          rotate_left
          ·simp only [Act.put, List.setIfInBounds_toArray, List.set_cons_zero, List.set_cons_succ, i64_w, i32_w]
           rfl
          refine pure_ (i := 3) (N := some 68) (v := ?_) (a' := ?_) #[true, true, true, true, false, false, false, false, false, false, false, false, false] rfl rfl (any_of HT_.out (by kernel_rfl)) (fun _ _ _ h => h) (Or.inl ⟨by rfl, ?_⟩) ?_ ?_
          rotate_left
          ·intro w'
           go_simp
           with_reducible rfl
          rotate_left
          ·simp only [Act.put, List.setIfInBounds_toArray, List.set_cons_zero, List.set_cons_succ, i64_w, i32_w]
           rfl
          refine pure_ (i := 4) (N := some 69) (v := ?_) (a' := ?_) #[true, true, true, true, true, false, false, false, false, false, false, false, false] rfl rfl (any_of HT_.out (by kernel_rfl)) (fun _ _ _ h => h) (Or.inl ⟨by rfl, ?_⟩) ?_ ?_
          rotate_left
          ·intro w'
           go_simp
           with_reducible rfl
          rotate_left
          ·simp only [Act.put, List.setIfInBounds_toArray, List.set_cons_zero, List.set_cons_succ, i64_w, i32_w]
           rfl
          refine pure_ (i := 7) (N := some 72) (v := ?_) (a' := ?_) #[true, true, true, true, true, false, false, true, false, false, false, false, false] rfl rfl (any_of HT_.out (by kernel_rfl)) (fun _ _ _ h => h) (Or.inl ⟨by rfl, ?_⟩) ?_ ?_
          rotate_left
          ·intro w'
           go_simp
           with_reducible rfl
          rotate_left
          ·simp only [Act.put, List.setIfInBounds_toArray, List.set_cons_zero, List.set_cons_succ, i64_w, i32_w]
           rfl
          refine take_ (i := 8) (N := some 73) (v := ?_) (a' := ?_) #[true, true, true, true, true, false, false, true, true, false, false, false, false] rfl rfl (take_ofW HT_.out HW_.out (by kernel_rfl)) (fun _ _ _ h => h) (Or.inl ⟨by rfl, ?_⟩) hHeld ?_ ?_
          rotate_left
          ·rintro w' ⟨s0, s1⟩
           go_simp
           with_reducible rfl
          rotate_left
          ·simp only [Act.put, List.setIfInBounds_toArray, List.set_cons_zero, List.set_cons_succ, i64_w, i32_w]
           rfl
          refine pure_ (i := 9) (N := some 74) (v := ?_) (a' := ?_) #[true, true, true, true, true, false, false, true, true, true, false, false, false] rfl rfl (any_of HT_.out (by kernel_rfl)) (fun _ _ _ h => h) (Or.inl ⟨by rfl, ?_⟩) ?_ ?_
          rotate_left
          ·intro w'
           go_simp
           with_reducible rfl
          rotate_left
          ·simp only [Act.put, List.setIfInBounds_toArray, List.set_cons_zero, List.set_cons_succ, i64_w, i32_w]
           rfl
          refine join_ (σ := Value × Value × Value) 2 #[true, true, true, true, true, true, true, true, true, true, true, false, false] (fun s_ => [(70, s_.1), (71, s_.2.1), (75, s_.2.2)]) (fun s_ w' => (w'.cell? ⟨gb256, 0, none⟩ = some (.int .i64 ((rd_T49 l0 a1).f0)) ∧ w'.cell? ⟨gb256, 1, none⟩ = some (.slice A255_1 ((rd_T49 l0 a1).f1).length c255_1)) ∧ (Kd.N k49 49 w' w.heap.size (fun k_ => (w.heap.size ≤ k_) ∧ some k_ ≠ (s_.2.1 : Value).ownBlock ∧ some k_ ≠ (s_.2.2 : Value).ownBlock ∧ k_ ≠ gb256) s_.1 t295) ∧ (Kd.N k49 49 w' w.heap.size (fun k_ => (w.heap.size ≤ k_) ∧ some k_ ≠ (s_.2.2 : Value).ownBlock ∧ k_ ≠ gb256) s_.2.1 y298) ∧ (Kd.N k49 49 w' w.heap.size (fun k_ => (w.heap.size ≤ k_) ∧ some k_ ≠ (s_.1 : Value).ownBlock ∧ some k_ ≠ (s_.2.1 : Value).ownBlock ∧ k_ ≠ gb256) s_.2.2 y301) ∧ (w'.heap[gb256]? = some (.cells #[.int .i64 ((rd_T49 l0 a1).f0), .slice A255_1 ((rd_T49 l0 a1).f1).length c255_1] 49 (0, 0))) ∧ (Below w.heap.size w w')) ?_ ?_
          rotate_left
          ·intro hCont
           refine two_ (i := 5) (j := 10) (Ni := some 70) (Nj := some 75) #[true, true, true, true, true, true, false, true, true, true, false, false, false] #[true, true, true, true, true, false, false, true, true, true, true, false, false] rfl rfl rfl rfl (two_of HT_.out (by kernel_rfl)) (by decide) (by decide) (fun K hK => ?_) (fun K hK => ?_)
           ·skip
            refine goes_ Try.func74 (by kernel_rfl) rfl #[.slice (some ad255) l0.length c0, .int .i64 (wrap64 (a1 - 1)), .int .i64 a2] (by rfl) rfl rfl mz_ ?_
            with_reducible refine (ih k (by omega) _ _ l0 (wrap64 (a1 - 1)) a2 t295 _ ?side1 ?side2 A94.out).mono ?_
            (case side1 => exact cy_ HR0.out HB.out)
            (case side2 => exact HC0.out)
            rintro e w103 ⟨v296, rfl, ho0, hb⟩
            refine ⟨_, rfl, ?_⟩
            have n0_ := Aside0.mk (Kd.N_elder' (nz_ HO294.out) (kb_ ho0) hb)
            have n1_ := Aside0.mk (Kd.N_lower (Kd.N_mono (ok' := fun k_ => (w.heap.size ≤ k_) ∧ some k_ ≠ (.slice Ao101 t292.length co101 : Value).ownBlock ∧ k_ ≠ gb256) ho0 (fun k_ hk_ => ⟨(Nat.le_trans (below_size (bg_ GE256.out)) hk_), (Kd.fresh' (Kd.N_lt (nz_ HO294.out)) k_ hk_), (Kd.freshB (g := gb256) (o := .cells #[.int .i64 ((rd_T49 l0 a1).f0), .slice A255_1 ((rd_T49 l0 a1).f1).length c255_1] 49 (0, 0)) (kz_ BK256.out) k_ hk_)⟩)) (below_size (bg_ GE256.out)))
            have n2_ := Aside0.mk (blk_below (g := gb256) (o := .cells #[.int .i64 ((rd_T49 l0 a1).f0), .slice A255_1 ((rd_T49 l0 a1).f1).length c255_1] 49 (0, 0)) (kz_ BK256.out) hb)
            have n3_ := Aside0.mk (below_step (bg_ GE256.out) hb)
            clear HO294
            clear BK256
            clear HB
            have HO294 := n0_
            have HO297 := n1_
            have BK256 := n2_
            have HB := n3_
            clear n0_ n1_ n2_ n3_
            
            
            
            
            (try clear ho0)
            obtain ⟨Ao105, co105, eo105⟩ := Kd.N_slice HO297.out
            (first | subst eo105 | (injection eo105 with f1_ f2_ f3_; have f4_ := f1_.symm; have f5_ := f3_.symm; clear f1_ f2_ f3_; subst f4_; subst f5_))
            refine hK.out _ _ ⟨(blk_cell BK256.out 0).trans rfl, (blk_cell BK256.out 1).trans rfl⟩ (fun hHeld => ?_)
            clear hK K
            refine norm_ (a' := ?_) ?_ ?_
            rotate_left
            ·show Act.put _ (some 70) _ = _
             simp only [Act.put, List.setIfInBounds_toArray, List.set_cons_zero, List.set_cons_succ, i64_w, i32_w]
             rfl
            refine two_ (i := 6) (j := 10) (Ni := some 71) (Nj := some 75) #[true, true, true, true, true, true, true, true, true, true, false, false, false] #[true, true, true, true, true, true, false, true, true, true, true, false, false] rfl rfl rfl rfl (two_of HT_.out (by kernel_rfl)) (by decide) (by decide) (fun K hK => ?_) (fun K hK => ?_)
            ·skip
             refine Kd.N_append_rows_step k49 (w0 := w) w.heap.size (by rfl) (.tmp 65) (.tmp 70) 25 49 (.agg #[(.int .i64 0), (.slice none 0 0)]) 32 rfl Try.underlying25 info49 rfl (by decide) (by omega) (.slice Ao101 t292.length co101) t292 t295 _ _ _ (fun k_ => (w.heap.size ≤ k_) ∧ k_ ≠ gb256) (fun k_ => ((fun k_ => (w.heap.size ≤ k_) ∧ k_ ≠ gb256)) k_ ∧ some k_ ≠ (.slice Ao101 t292.length co101 : Value).ownBlock) rfl rfl ?aO ?aR (fun _ hk => hk) ?aF ?aB ?aS ?aL ?_
             (case aR => exact (by skip; exact Kd.N_F (Kd.N_mono (ok' := (fun k_ => ((fun k_ => (w.heap.size ≤ k_) ∧ k_ ≠ gb256)) k_ ∧ some k_ ≠ (.slice Ao101 t292.length co101 : Value).ownBlock)) (HO297.out) (fun k_ hk => ⟨⟨hk.1, hk.2.2⟩, hk.2.1⟩))))
             (case aB => exact (bg_ GE256.out))
             (case aF => exact (fun k_ hk => ⟨(Nat.le_trans (below_size (bg_ GE256.out)) hk), Kd.freshB (g := gb256) (o := .cells #[.int .i64 ((rd_T49 l0 a1).f0), .slice A255_1 ((rd_T49 l0 a1).f1).length c255_1] 49 (0, 0)) (kz_ BK256.out) k_ hk⟩))
             (case aO => exact (by (with_reducible repeat (first | apply Kd.N_alloc | apply Kd.N_drewN | apply Kd.N_drew)); exact Kd.N_mono HO294.out (fun _ hk => ⟨hk.1.1, hk.1.2⟩)))
             (case aS => exact (below_size (bg_ GE256.out)))
             (case aL => have := LMc95.out; omega)
             intro v299 w104 ho hb hg hat
             rw [← Ny298.out] at ho
             have n0_ := Aside0.mk (blk_grown (g := gb256) (o := .cells #[.int .i64 ((rd_T49 l0 a1).f0), .slice A255_1 ((rd_T49 l0 a1).f1).length c255_1] 49 (0, 0)) (kz_ BK256.out) hg (Kd.N_away HO294.out (fun _ hk => hk.1.2)))
             have n1_ := Aside0.mk (Kd.N_afterv (ok := (fun k_ => (w.heap.size ≤ k_) ∧ k_ ≠ gb256)) (by (with_reducible repeat (first | apply Kd.N_alloc | apply Kd.N_drewN | apply Kd.N_drew)); exact Kd.N_mono HO297.out (fun _ hk => ⟨⟨hk.1, hk.2.2⟩, hk.2.1⟩)) hg hat)
             have n2_ := Aside0.mk (hb)
             have n3_ := Aside0.mk (ho)
             clear BK256
             clear HO297
             clear HB
             clear HO294
             have BK256 := n0_
             have HO297 := n1_
             have HB := n2_
             have HO300 := n3_
             clear n0_ n1_ n2_ n3_
             clear ho hb hg hat
             refine hK.out _ _ ⟨(blk_cell BK256.out 0).trans rfl, (blk_cell BK256.out 1).trans rfl⟩ (fun hHeld => ?_)
             clear hK K
             refine norm_ (a' := ?_) ?_ ?_
             rotate_left
             ·show Act.put _ (some 71) _ = _
              simp only [Act.put, List.setIfInBounds_toArray, List.set_cons_zero, List.set_cons_succ, i64_w, i32_w]
              rfl
             refine one_ (i := 10) (N := some 75) #[true, true, true, true, true, true, true, true, true, true, true, false, false] rfl rfl (one_of HT_.out (by kernel_rfl)) (by decide) (fun K hK => ?_)
             refine Kd.N_lit_step k49 _ 49 ?hg (N' := 75) ?hd (xs := ([(⟨(rd_T49 l0 a1).f0, ([] : List Int)⟩ : S49)] : List (S49))) (inner := [.int .i64 ((rd_T49 l0 a1).f0), .slice none 0 0]) (ok := (fun k_ => (w.heap.size ≤ k_) ∧ some k_ ≠ (.slice Ao105 t295.length co105 : Value).ownBlock ∧ some k_ ≠ (v299 : Value).ownBlock ∧ k_ ≠ gb256)) (okp := (fun k_ => (w.heap.size ≤ k_) ∧ some k_ ≠ (.slice Ao105 t295.length co105 : Value).ownBlock ∧ some k_ ≠ (v299 : Value).ownBlock ∧ k_ ≠ gb256)) ?hr ?hp (fun _ hk => hk) (by exact ((show ∀ k_, (_ : World).heap.size ≤ k_ → (fun k_ => (w.heap.size ≤ k_) ∧ some k_ ≠ (.slice Ao105 t295.length co105 : Value).ownBlock ∧ some k_ ≠ (v299 : Value).ownBlock ∧ k_ ≠ gb256) k_ from fun k_ hk => ⟨(Nat.le_trans (below_size (bg_ GE256.out)) hk), Kd.fresh' (Kd.N_lt (nz_ HO297.out)) k_ hk, Kd.fresh' (Kd.N_lt (nz_ HO300.out)) k_ hk, Kd.freshB (g := gb256) (o := .cells #[.int .i64 ((rd_T49 l0 a1).f0), .slice A255_1 ((rd_T49 l0 a1).f1).length c255_1] 49 (0, 0)) (kz_ BK256.out) k_ hk⟩) _ (Nat.le_refl _))) (Below.refl _ _) (Nat.le_refl _) (by simp) ?_; (case hd => rfl); (case hg => rfl); (case hr => first | (go_simp; done) | (go_simp; rfl)); (case hp => exact (Reps.c2 (show Kd.FK k49 _ _ (⟨(rd_T49 l0 a1).f0, ([] : List Int)⟩ : S49) [.int .i64 ((rd_T49 l0 a1).f0), .slice none 0 0] from (k49_mkF _ _ (⟨(rd_T49 l0 a1).f0, ([] : List Int)⟩ : S49) (Nat.le_refl _) (Kd.F_nil _ _ _))) (Reps.none _ _)))
             intro v302 w106 ho107 hb hg_ hnew_
             clear hg_ hnew_
             (first | rw [← Ny301.out] at ho107 | (simp only [Int.reduceToNat] at ho107; rw [← Ny301.out] at ho107))
             have n0_ := Aside0.mk (Kd.N_elder' (nz_ HO297.out) (kb_ ho107) hb)
             have n1_ := Aside0.mk (Kd.N_elder' (nz_ HO300.out) (kb_ ho107) hb)
             have n2_ := Aside0.mk (Kd.N_lower ho107 (below_size (bg_ GE256.out)))
             have n3_ := Aside0.mk (blk_below (g := gb256) (o := .cells #[.int .i64 ((rd_T49 l0 a1).f0), .slice A255_1 ((rd_T49 l0 a1).f1).length c255_1] 49 (0, 0)) (kz_ BK256.out) hb)
             have n4_ := Aside0.mk (below_step (bg_ GE256.out) hb)
             clear HO297
             clear HO300
             clear BK256
             clear HB
             have HO297 := n0_
             have HO300 := n1_
             have HO303 := n2_
             have BK256 := n3_
             have HB := n4_
             clear n0_ n1_ n2_ n3_ n4_
             clear hb ho107
             refine hK.out _ _ ⟨(blk_cell BK256.out 0).trans rfl, (blk_cell BK256.out 1).trans rfl⟩ (fun hHeld => ?_)
             clear hK K
             refine norm_ (a' := ?_) ?_ ?_
             rotate_left
             ·show Act.put _ (some 75) _ = _
              simp only [Act.put, List.setIfInBounds_toArray, List.set_cons_zero, List.set_cons_succ, i64_w, i32_w]
              rfl
             exact norm_ (by simp only [putAll, Act.put, List.setIfInBounds_toArray, List.set_cons_zero, List.set_cons_succ]) (hCont (.slice Ao105 t295.length co105, v299, v302) _ ⟨hHeld, (by (with_reducible repeat (first | apply Kd.N_alloc | apply Kd.N_drewN | apply Kd.N_drew)); exact Kd.N_mono HO297.out (fun _ hk => ⟨hk.1.1.1, ⟨hk.1.2, ⟨hk.2, hk.1.1.2⟩⟩⟩)), (by (with_reducible repeat (first | apply Kd.N_alloc | apply Kd.N_drewN | apply Kd.N_drew)); exact Kd.N_mono HO300.out (fun _ hk => ⟨hk.1.1, ⟨hk.2, hk.1.2⟩⟩)), (nz_ HO303.out), (kz_ BK256.out), (bg_ GE256.out)⟩)
            ·skip
             refine Kd.N_lit_step k49 _ 49 ?hg (N' := 75) ?hd (xs := ([(⟨(rd_T49 l0 a1).f0, ([] : List Int)⟩ : S49)] : List (S49))) (inner := [.int .i64 ((rd_T49 l0 a1).f0), .slice none 0 0]) (ok := (fun k_ => (w.heap.size ≤ k_) ∧ some k_ ≠ (.slice Ao101 t292.length co101 : Value).ownBlock ∧ some k_ ≠ (.slice Ao105 t295.length co105 : Value).ownBlock ∧ k_ ≠ gb256)) (okp := (fun k_ => (w.heap.size ≤ k_) ∧ some k_ ≠ (.slice Ao101 t292.length co101 : Value).ownBlock ∧ some k_ ≠ (.slice Ao105 t295.length co105 : Value).ownBlock ∧ k_ ≠ gb256)) ?hr ?hp (fun _ hk => hk) (by exact ((show ∀ k_, (_ : World).heap.size ≤ k_ → (fun k_ => (w.heap.size ≤ k_) ∧ some k_ ≠ (.slice Ao101 t292.length co101 : Value).ownBlock ∧ some k_ ≠ (.slice Ao105 t295.length co105 : Value).ownBlock ∧ k_ ≠ gb256) k_ from fun k_ hk => ⟨(Nat.le_trans (below_size (bg_ GE256.out)) hk), Kd.fresh' (Kd.N_lt (nz_ HO294.out)) k_ hk, Kd.fresh' (Kd.N_lt (nz_ HO297.out)) k_ hk, Kd.freshB (g := gb256) (o := .cells #[.int .i64 ((rd_T49 l0 a1).f0), .slice A255_1 ((rd_T49 l0 a1).f1).length c255_1] 49 (0, 0)) (kz_ BK256.out) k_ hk⟩) _ (Nat.le_refl _))) (Below.refl _ _) (Nat.le_refl _) (by simp) ?_; (case hd => rfl); (case hg => rfl); (case hr => first | (go_simp; done) | (go_simp; rfl)); (case hp => exact (Reps.c2 (show Kd.FK k49 _ _ (⟨(rd_T49 l0 a1).f0, ([] : List Int)⟩ : S49) [.int .i64 ((rd_T49 l0 a1).f0), .slice none 0 0] from (k49_mkF _ _ (⟨(rd_T49 l0 a1).f0, ([] : List Int)⟩ : S49) (Nat.le_refl _) (Kd.F_nil _ _ _))) (Reps.none _ _)))
             intro v302 w104 ho105 hb hg_ hnew_
             clear hg_ hnew_
             (first | rw [← Ny301.out] at ho105 | (simp only [Int.reduceToNat] at ho105; rw [← Ny301.out] at ho105))
             have n0_ := Aside0.mk (Kd.N_elder' (nz_ HO294.out) (kb_ ho105) hb)
             have n1_ := Aside0.mk (Kd.N_elder' (nz_ HO297.out) (kb_ ho105) hb)
             have n2_ := Aside0.mk (Kd.N_lower ho105 (below_size (bg_ GE256.out)))
             have n3_ := Aside0.mk (blk_below (g := gb256) (o := .cells #[.int .i64 ((rd_T49 l0 a1).f0), .slice A255_1 ((rd_T49 l0 a1).f1).length c255_1] 49 (0, 0)) (kz_ BK256.out) hb)
             have n4_ := Aside0.mk (below_step (bg_ GE256.out) hb)
             clear HO294
             clear HO297
             clear BK256
             clear HB
             have HO294 := n0_
             have HO297 := n1_
             have HO303 := n2_
             have BK256 := n3_
             have HB := n4_
             clear n0_ n1_ n2_ n3_ n4_
             clear hb ho105
             obtain ⟨Ao107, co107, eo107⟩ := Kd.N_slice HO297.out
             (first | subst eo107 | (injection eo107 with f1_ f2_ f3_; have f4_ := f1_.symm; have f5_ := f3_.symm; clear f1_ f2_ f3_; subst f4_; subst f5_))
             refine hK.out _ _ ⟨(blk_cell BK256.out 0).trans rfl, (blk_cell BK256.out 1).trans rfl⟩ (fun hHeld => ?_)
             clear hK K
             refine norm_ (a' := ?_) ?_ ?_
             rotate_left
             ·show Act.put _ (some 75) _ = _
              simp only [Act.put, List.setIfInBounds_toArray, List.set_cons_zero, List.set_cons_succ, i64_w, i32_w]
              rfl
             refine one_ (i := 6) (N := some 71) #[true, true, true, true, true, true, true, true, true, true, true, false, false] rfl rfl (one_of HT_.out (by kernel_rfl)) (by decide) (fun K hK => ?_)
             refine Kd.N_append_rows_step k49 (w0 := w) w.heap.size (by rfl) (.tmp 65) (.tmp 70) 25 49 (.agg #[(.int .i64 0), (.slice none 0 0)]) 32 rfl Try.underlying25 info49 rfl (by decide) (by omega) (.slice Ao101 t292.length co101) t292 t295 _ _ _ (fun k_ => (w.heap.size ≤ k_) ∧ some k_ ≠ (v302 : Value).ownBlock ∧ k_ ≠ gb256) (fun k_ => ((fun k_ => (w.heap.size ≤ k_) ∧ some k_ ≠ (v302 : Value).ownBlock ∧ k_ ≠ gb256)) k_ ∧ some k_ ≠ (.slice Ao101 t292.length co101 : Value).ownBlock) rfl rfl ?aO ?aR (fun _ hk => hk) ?aF ?aB ?aS ?aL ?_
             (case aR => exact (by skip; exact Kd.N_F (Kd.N_mono (ok' := (fun k_ => ((fun k_ => (w.heap.size ≤ k_) ∧ some k_ ≠ (v302 : Value).ownBlock ∧ k_ ≠ gb256)) k_ ∧ some k_ ≠ (.slice Ao101 t292.length co101 : Value).ownBlock)) (HO297.out) (fun k_ hk => ⟨⟨hk.1.1, ⟨hk.2, hk.1.2.2⟩⟩, hk.1.2.1⟩))))
             (case aB => exact (bg_ GE256.out))
             (case aF => exact (fun k_ hk => ⟨(Nat.le_trans (below_size (bg_ GE256.out)) hk), Kd.fresh' (Kd.N_lt (nz_ HO303.out)) k_ hk, Kd.freshB (g := gb256) (o := .cells #[.int .i64 ((rd_T49 l0 a1).f0), .slice A255_1 ((rd_T49 l0 a1).f1).length c255_1] 49 (0, 0)) (kz_ BK256.out) k_ hk⟩))
             (case aO => exact (by (with_reducible repeat (first | apply Kd.N_alloc | apply Kd.N_drewN | apply Kd.N_drew)); exact Kd.N_mono HO294.out (fun _ hk => ⟨hk.1.1.1, ⟨hk.2, hk.1.1.2⟩⟩)))
             (case aS => exact (below_size (bg_ GE256.out)))
             (case aL => have := LMc95.out; omega)
             intro v299 w106 ho hb hg hat
             rw [← Ny298.out] at ho
             have n0_ := Aside0.mk (blk_grown (g := gb256) (o := .cells #[.int .i64 ((rd_T49 l0 a1).f0), .slice A255_1 ((rd_T49 l0 a1).f1).length c255_1] 49 (0, 0)) (kz_ BK256.out) hg (Kd.N_away HO294.out (fun _ hk => hk.1.1.2)))
             have n1_ := Aside0.mk (Kd.N_afterv (ok := (fun k_ => (w.heap.size ≤ k_) ∧ some k_ ≠ (v302 : Value).ownBlock ∧ k_ ≠ gb256)) (by (with_reducible repeat (first | apply Kd.N_alloc | apply Kd.N_drewN | apply Kd.N_drew)); exact Kd.N_mono HO297.out (fun _ hk => ⟨⟨hk.1.1, ⟨hk.2, hk.1.2.2⟩⟩, hk.1.2.1⟩)) hg hat)
             have n2_ := Aside0.mk (Kd.N_afterv (ok := (fun k_ => (w.heap.size ≤ k_) ∧ some k_ ≠ (.slice Ao107 t295.length co107 : Value).ownBlock ∧ k_ ≠ gb256)) (by (with_reducible repeat (first | apply Kd.N_alloc | apply Kd.N_drewN | apply Kd.N_drew)); exact Kd.N_mono HO303.out (fun _ hk => ⟨⟨hk.1, ⟨hk.2.2.1, hk.2.2.2⟩⟩, hk.2.1⟩)) hg hat)
             have n3_ := Aside0.mk (hb)
             have n4_ := Aside0.mk (ho)
             clear BK256
             clear HO297
             clear HO303
             clear HB
             clear HO294
             have BK256 := n0_
             have HO297 := n1_
             have HO303 := n2_
             have HB := n3_
             have HO300 := n4_
             clear n0_ n1_ n2_ n3_ n4_
             clear ho hb hg hat
             refine hK.out _ _ ⟨(blk_cell BK256.out 0).trans rfl, (blk_cell BK256.out 1).trans rfl⟩ (fun hHeld => ?_)
             clear hK K
             refine norm_ (a' := ?_) ?_ ?_
             rotate_left
             ·show Act.put _ (some 71) _ = _
              simp only [Act.put, List.setIfInBounds_toArray, List.set_cons_zero, List.set_cons_succ, i64_w, i32_w]
              rfl
             exact norm_ (by simp only [putAll, Act.put, List.setIfInBounds_toArray, List.set_cons_zero, List.set_cons_succ]) (hCont (.slice Ao107 t295.length co107, v299, v302) _ ⟨hHeld, (by (with_reducible repeat (first | apply Kd.N_alloc | apply Kd.N_drewN | apply Kd.N_drew)); exact Kd.N_mono HO297.out (fun _ hk => ⟨hk.1.1, ⟨hk.2, ⟨hk.1.2.1, hk.1.2.2⟩⟩⟩)), (nz_ HO300.out), (by (with_reducible repeat (first | apply Kd.N_alloc | apply Kd.N_drewN | apply Kd.N_drew)); exact Kd.N_mono HO303.out (fun _ hk => ⟨hk.1.1, ⟨hk.1.2.1, ⟨hk.2, hk.1.2.2⟩⟩⟩)), (kz_ BK256.out), (bg_ GE256.out)⟩)
           ·skip
            refine Kd.N_lit_step k49 _ 49 ?hg (N' := 75) ?hd (xs := ([(⟨(rd_T49 l0 a1).f0, ([] : List Int)⟩ : S49)] : List (S49))) (inner := [.int .i64 ((rd_T49 l0 a1).f0), .slice none 0 0]) (ok := (fun k_ => (w.heap.size ≤ k_) ∧ some k_ ≠ (.slice Ao101 t292.length co101 : Value).ownBlock ∧ k_ ≠ gb256)) (okp := (fun k_ => (w.heap.size ≤ k_) ∧ some k_ ≠ (.slice Ao101 t292.length co101 : Value).ownBlock ∧ k_ ≠ gb256)) ?hr ?hp (fun _ hk => hk) (by exact ((show ∀ k_, (_ : World).heap.size ≤ k_ → (fun k_ => (w.heap.size ≤ k_) ∧ some k_ ≠ (.slice Ao101 t292.length co101 : Value).ownBlock ∧ k_ ≠ gb256) k_ from fun k_ hk => ⟨(Nat.le_trans (below_size (bg_ GE256.out)) hk), Kd.fresh' (Kd.N_lt (nz_ HO294.out)) k_ hk, Kd.freshB (g := gb256) (o := .cells #[.int .i64 ((rd_T49 l0 a1).f0), .slice A255_1 ((rd_T49 l0 a1).f1).length c255_1] 49 (0, 0)) (kz_ BK256.out) k_ hk⟩) _ (Nat.le_refl _))) (Below.refl _ _) (Nat.le_refl _) (by simp) ?_; (case hd => rfl); (case hg => rfl); (case hr => first | (go_simp; done) | (go_simp; rfl)); (case hp => exact (Reps.c2 (show Kd.FK k49 _ _ (⟨(rd_T49 l0 a1).f0, ([] : List Int)⟩ : S49) [.int .i64 ((rd_T49 l0 a1).f0), .slice none 0 0] from (k49_mkF _ _ (⟨(rd_T49 l0 a1).f0, ([] : List Int)⟩ : S49) (Nat.le_refl _) (Kd.F_nil _ _ _))) (Reps.none _ _)))
            intro v302 w103 ho104 hb hg_ hnew_
            clear hg_ hnew_
            (first | rw [← Ny301.out] at ho104 | (simp only [Int.reduceToNat] at ho104; rw [← Ny301.out] at ho104))
            have n0_ := Aside0.mk (Kd.N_elder' (nz_ HO294.out) (kb_ ho104) hb)
            have n1_ := Aside0.mk (Kd.N_lower ho104 (below_size (bg_ GE256.out)))
            have n2_ := Aside0.mk (blk_below (g := gb256) (o := .cells #[.int .i64 ((rd_T49 l0 a1).f0), .slice A255_1 ((rd_T49 l0 a1).f1).length c255_1] 49 (0, 0)) (kz_ BK256.out) hb)
            have n3_ := Aside0.mk (below_step (bg_ GE256.out) hb)
            clear HO294
            clear BK256
            clear HB
            have HO294 := n0_
            have HO303 := n1_
            have BK256 := n2_
            have HB := n3_
            clear n0_ n1_ n2_ n3_
            clear hb ho104
            refine hK.out _ _ ⟨(blk_cell BK256.out 0).trans rfl, (blk_cell BK256.out 1).trans rfl⟩ (fun hHeld => ?_)
            clear hK K
            refine norm_ (a' := ?_) ?_ ?_
            rotate_left
            ·show Act.put _ (some 75) _ = _
             simp only [Act.put, List.setIfInBounds_toArray, List.set_cons_zero, List.set_cons_succ, i64_w, i32_w]
             rfl
            refine one_ (i := 5) (N := some 70) #[true, true, true, true, true, true, false, true, true, true, true, false, false] rfl rfl (one_of HT_.out (by kernel_rfl)) (by decide) (fun K hK => ?_)
            refine goes_ Try.func74 (by kernel_rfl) rfl #[.slice (some ad255) l0.length c0, .int .i64 (wrap64 (a1 - 1)), .int .i64 a2] (by rfl) rfl rfl mz_ ?_
            with_reducible refine (ih k (by omega) _ _ l0 (wrap64 (a1 - 1)) a2 t295 _ ?side1 ?side2 A94.out).mono ?_
            (case side1 => exact cy_ HR0.out HB.out)
            (case side2 => exact HC0.out)
            rintro e w105 ⟨v296, rfl, ho0, hb⟩
            refine ⟨_, rfl, ?_⟩
            have n0_ := Aside0.mk (Kd.N_elder' (nz_ HO294.out) (kb_ ho0) hb)
            have n1_ := Aside0.mk (Kd.N_elder' (nz_ HO303.out) (kb_ ho0) hb)
            have n2_ := Aside0.mk (Kd.N_lower (Kd.N_mono (ok' := fun k_ => (w.heap.size ≤ k_) ∧ some k_ ≠ (.slice Ao101 t292.length co101 : Value).ownBlock ∧ some k_ ≠ (v302 : Value).ownBlock ∧ k_ ≠ gb256) ho0 (fun k_ hk_ => ⟨(Nat.le_trans (below_size (bg_ GE256.out)) hk_), (Kd.fresh' (Kd.N_lt (nz_ HO294.out)) k_ hk_), (Kd.fresh' (Kd.N_lt (nz_ HO303.out)) k_ hk_), (Kd.freshB (g := gb256) (o := .cells #[.int .i64 ((rd_T49 l0 a1).f0), .slice A255_1 ((rd_T49 l0 a1).f1).length c255_1] 49 (0, 0)) (kz_ BK256.out) k_ hk_)⟩)) (below_size (bg_ GE256.out)))
            have n3_ := Aside0.mk (blk_below (g := gb256) (o := .cells #[.int .i64 ((rd_T49 l0 a1).f0), .slice A255_1 ((rd_T49 l0 a1).f1).length c255_1] 49 (0, 0)) (kz_ BK256.out) hb)
            have n4_ := Aside0.mk (below_step (bg_ GE256.out) hb)
            clear HO294
            clear HO303
            clear BK256
            clear HB
            have HO294 := n0_
            have HO303 := n1_
            have HO297 := n2_
            have BK256 := n3_
            have HB := n4_
            clear n0_ n1_ n2_ n3_ n4_
            
            
            
            
            (try clear ho0)
            obtain ⟨Ao107, co107, eo107⟩ := Kd.N_slice HO297.out
            (first | subst eo107 | (injection eo107 with f1_ f2_ f3_; have f4_ := f1_.symm; have f5_ := f3_.symm; clear f1_ f2_ f3_; subst f4_; subst f5_))
            refine hK.out _ _ ⟨(blk_cell BK256.out 0).trans rfl, (blk_cell BK256.out 1).trans rfl⟩ (fun hHeld => ?_)
            clear hK K
            refine norm_ (a' := ?_) ?_ ?_
            rotate_left
            ·show Act.put _ (some 70) _ = _
             simp only [Act.put, List.setIfInBounds_toArray, List.set_cons_zero, List.set_cons_succ, i64_w, i32_w]
             rfl
            refine one_ (i := 6) (N := some 71) #[true, true, true, true, true, true, true, true, true, true, true, false, false] rfl rfl (one_of HT_.out (by kernel_rfl)) (by decide) (fun K hK => ?_)
            refine Kd.N_append_rows_step k49 (w0 := w) w.heap.size (by rfl) (.tmp 65) (.tmp 70) 25 49 (.agg #[(.int .i64 0), (.slice none 0 0)]) 32 rfl Try.underlying25 info49 rfl (by decide) (by omega) (.slice Ao101 t292.length co101) t292 t295 _ _ _ (fun k_ => (w.heap.size ≤ k_) ∧ some k_ ≠ (v302 : Value).ownBlock ∧ k_ ≠ gb256) (fun k_ => ((fun k_ => (w.heap.size ≤ k_) ∧ some k_ ≠ (v302 : Value).ownBlock ∧ k_ ≠ gb256)) k_ ∧ some k_ ≠ (.slice Ao101 t292.length co101 : Value).ownBlock) rfl rfl ?aO ?aR (fun _ hk => hk) ?aF ?aB ?aS ?aL ?_
            (case aR => exact (by skip; exact Kd.N_F (Kd.N_mono (ok' := (fun k_ => ((fun k_ => (w.heap.size ≤ k_) ∧ some k_ ≠ (v302 : Value).ownBlock ∧ k_ ≠ gb256)) k_ ∧ some k_ ≠ (.slice Ao101 t292.length co101 : Value).ownBlock)) (HO297.out) (fun k_ hk => ⟨⟨hk.1, ⟨hk.2.2.1, hk.2.2.2⟩⟩, hk.2.1⟩))))
            (case aB => exact (bg_ GE256.out))
            (case aF => exact (fun k_ hk => ⟨(Nat.le_trans (below_size (bg_ GE256.out)) hk), Kd.fresh' (Kd.N_lt (nz_ HO303.out)) k_ hk, Kd.freshB (g := gb256) (o := .cells #[.int .i64 ((rd_T49 l0 a1).f0), .slice A255_1 ((rd_T49 l0 a1).f1).length c255_1] 49 (0, 0)) (kz_ BK256.out) k_ hk⟩))
            (case aO => exact (by (with_reducible repeat (first | apply Kd.N_alloc | apply Kd.N_drewN | apply Kd.N_drew)); exact Kd.N_mono HO294.out (fun _ hk => ⟨hk.1.1.1, ⟨hk.1.2, hk.1.1.2⟩⟩)))
            (case aS => exact (below_size (bg_ GE256.out)))
            (case aL => have := LMc95.out; omega)
            intro v299 w106 ho hb hg hat
            rw [← Ny298.out] at ho
            have n0_ := Aside0.mk (blk_grown (g := gb256) (o := .cells #[.int .i64 ((rd_T49 l0 a1).f0), .slice A255_1 ((rd_T49 l0 a1).f1).length c255_1] 49 (0, 0)) (kz_ BK256.out) hg (Kd.N_away HO294.out (fun _ hk => hk.1.1.2)))
            have n1_ := Aside0.mk (Kd.N_afterv (ok := (fun k_ => (w.heap.size ≤ k_) ∧ some k_ ≠ (.slice Ao107 t295.length co107 : Value).ownBlock ∧ k_ ≠ gb256)) (by (with_reducible repeat (first | apply Kd.N_alloc | apply Kd.N_drewN | apply Kd.N_drew)); exact Kd.N_mono HO303.out (fun _ hk => ⟨⟨hk.1.1, ⟨hk.2, hk.1.2.2⟩⟩, hk.1.2.1⟩)) hg hat)
            have n2_ := Aside0.mk (Kd.N_afterv (ok := (fun k_ => (w.heap.size ≤ k_) ∧ some k_ ≠ (v302 : Value).ownBlock ∧ k_ ≠ gb256)) (by (with_reducible repeat (first | apply Kd.N_alloc | apply Kd.N_drewN | apply Kd.N_drew)); exact Kd.N_mono HO297.out (fun _ hk => ⟨⟨hk.1, ⟨hk.2.2.1, hk.2.2.2⟩⟩, hk.2.1⟩)) hg hat)
            have n3_ := Aside0.mk (hb)
            have n4_ := Aside0.mk (ho)
            clear BK256
            clear HO303
            clear HO297
            clear HB
            clear HO294
            have BK256 := n0_
            have HO303 := n1_
            have HO297 := n2_
            have HB := n3_
            have HO300 := n4_
            clear n0_ n1_ n2_ n3_ n4_
            clear ho hb hg hat
            refine hK.out _ _ ⟨(blk_cell BK256.out 0).trans rfl, (blk_cell BK256.out 1).trans rfl⟩ (fun hHeld => ?_)
            clear hK K
            refine norm_ (a' := ?_) ?_ ?_
            rotate_left
            ·show Act.put _ (some 71) _ = _
             simp only [Act.put, List.setIfInBounds_toArray, List.set_cons_zero, List.set_cons_succ, i64_w, i32_w]
             rfl
            exact norm_ (by simp only [putAll, Act.put, List.setIfInBounds_toArray, List.set_cons_zero, List.set_cons_succ]) (hCont (.slice Ao107 t295.length co107, v299, v302) _ ⟨hHeld, (by (with_reducible repeat (first | apply Kd.N_alloc | apply Kd.N_drewN | apply Kd.N_drew)); exact Kd.N_mono HO297.out (fun _ hk => ⟨hk.1.1, ⟨hk.2, ⟨hk.1.2.1, hk.1.2.2⟩⟩⟩)), (nz_ HO300.out), (by (with_reducible repeat (first | apply Kd.N_alloc | apply Kd.N_drewN | apply Kd.N_drew)); exact Kd.N_mono HO303.out (fun _ hk => ⟨hk.1.1, ⟨hk.1.2.1, ⟨hk.2, hk.1.2.2⟩⟩⟩)), (kz_ BK256.out), (bg_ GE256.out)⟩)
          rintro ⟨v296, v299, v302⟩ w108 ⟨hS_, h0_, h1_, h2_, h3_, h4_⟩
          have n0_ : Aside0 (Kd.N k49 49 w108 w.heap.size (fun k_ => (w.heap.size ≤ k_) ∧ some k_ ≠ (v299 : Value).ownBlock ∧ some k_ ≠ (v302 : Value).ownBlock ∧ k_ ≠ gb256) v296 t295) := ⟨h0_⟩
          have n1_ : Aside0 (Kd.N k49 49 w108 w.heap.size (fun k_ => (w.heap.size ≤ k_) ∧ some k_ ≠ (v302 : Value).ownBlock ∧ k_ ≠ gb256) v299 y298) := ⟨h1_⟩
          have n2_ : Aside0 (Kd.N k49 49 w108 w.heap.size (fun k_ => (w.heap.size ≤ k_) ∧ some k_ ≠ (v296 : Value).ownBlock ∧ some k_ ≠ (v299 : Value).ownBlock ∧ k_ ≠ gb256) v302 y301) := ⟨h2_⟩
          have n3_ : Aside0 (w108.heap[gb256]? = some (.cells #[.int .i64 ((rd_T49 l0 a1).f0), .slice A255_1 ((rd_T49 l0 a1).f1).length c255_1] 49 (0, 0))) := ⟨h3_⟩
          have n4_ : Aside0 (Below w.heap.size w w108) := ⟨h4_⟩
          clear HO294
          clear BK256
          clear HB
          clear h0_ h1_ h2_ h3_ h4_
          have HO297 := n0_
          have HO300 := n1_
          have HO303 := n2_
          have BK256 := n3_
          have HB := n4_
          clear n0_ n1_ n2_ n3_ n4_
          have hHeld : w108.cell? ⟨gb256, 0, none⟩ = some (.int .i64 ((rd_T49 l0 a1).f0)) ∧ w108.cell? ⟨gb256, 1, none⟩ = some (.slice A255_1 ((rd_T49 l0 a1).f1).length c255_1) := hS_
          obtain ⟨Ao110, co110, eo110⟩ := Kd.N_slice HO303.out
          (first | subst eo110 | (injection eo110 with f1_ f2_ f3_; have f4_ := f1_.symm; have f5_ := f3_.symm; clear f1_ f2_ f3_; subst f4_; subst f5_))
          refine norm_ (a' := ?_) ?_ ?_
          rotate_left
          ·simp only [putAll, Act.put, List.setIfInBounds_toArray, List.set_cons_zero, List.set_cons_succ]
           rfl
          refine one_ (i := 11) (N := some 76) #[true, true, true, true, true, true, true, true, true, true, true, true, false] rfl rfl (one_of HT_.out (by kernel_rfl)) (by decide) (fun K hK => ?_)
          refine Kd.N_append_rows_step k49 (w0 := w) w.heap.size (by rfl) (.tmp 71) (.tmp 75) 25 49 (.agg #[(.int .i64 0), (.slice none 0 0)]) 32 rfl Try.underlying25 info49 rfl (by decide) (by omega) v299 y298 y301 _ _ _ (fun k_ => (w.heap.size ≤ k_) ∧ k_ ≠ gb256) (fun k_ => ((fun k_ => (w.heap.size ≤ k_) ∧ k_ ≠ gb256)) k_ ∧ some k_ ≠ (v299 : Value).ownBlock) rfl rfl ?aO ?aR (fun _ hk => hk) ?aF ?aB ?aS ?aL ?_
          (case aR => exact (by skip; exact Kd.N_F (Kd.N_mono (ok' := (fun k_ => ((fun k_ => (w.heap.size ≤ k_) ∧ k_ ≠ gb256)) k_ ∧ some k_ ≠ (v299 : Value).ownBlock)) (HO303.out) (fun k_ hk => ⟨⟨hk.1, hk.2.2.2⟩, hk.2.2.1⟩))))
          (case aB => exact (bg_ GE256.out))
          (case aF => exact (fun k_ hk => ⟨(Nat.le_trans (below_size (bg_ GE256.out)) hk), Kd.freshB (g := gb256) (o := .cells #[.int .i64 ((rd_T49 l0 a1).f0), .slice A255_1 ((rd_T49 l0 a1).f1).length c255_1] 49 (0, 0)) (kz_ BK256.out) k_ hk⟩))
          (case aO => exact (by (with_reducible repeat (first | apply Kd.N_alloc | apply Kd.N_drewN | apply Kd.N_drew)); exact Kd.N_mono HO300.out (fun _ hk => ⟨hk.1, hk.2.2⟩)))
          (case aS => exact (below_size (bg_ GE256.out)))
          (case aL => have := LMc96.out; omega)
          intro v305 w109 ho hb hg hat
          rw [← Ny304.out] at ho
          have n0_ := Aside0.mk (blk_grown (g := gb256) (o := .cells #[.int .i64 ((rd_T49 l0 a1).f0), .slice A255_1 ((rd_T49 l0 a1).f1).length c255_1] 49 (0, 0)) (kz_ BK256.out) hg (Kd.N_away HO300.out (fun _ hk => hk.2.2)))
          have n1_ := Aside0.mk (Kd.N_afterv (ok := (fun k_ => (w.heap.size ≤ k_) ∧ some k_ ≠ (.slice Ao110 y301.length co110 : Value).ownBlock ∧ k_ ≠ gb256)) (by (with_reducible repeat (first | apply Kd.N_alloc | apply Kd.N_drewN | apply Kd.N_drew)); exact Kd.N_mono HO297.out (fun _ hk => ⟨⟨hk.1, ⟨hk.2.2.1, hk.2.2.2⟩⟩, hk.2.1⟩)) hg hat)
          have n2_ := Aside0.mk (Kd.N_afterv (ok := (fun k_ => (w.heap.size ≤ k_) ∧ some k_ ≠ (v296 : Value).ownBlock ∧ k_ ≠ gb256)) (by (with_reducible repeat (first | apply Kd.N_alloc | apply Kd.N_drewN | apply Kd.N_drew)); exact Kd.N_mono HO303.out (fun _ hk => ⟨⟨hk.1, ⟨hk.2.1, hk.2.2.2⟩⟩, hk.2.2.1⟩)) hg hat)
          have n3_ := Aside0.mk (hb)
          have n4_ := Aside0.mk (ho)
          clear BK256
          clear HO297
          clear HO303
          clear HB
          clear HO300
          have BK256 := n0_
          have HO297 := n1_
          have HO303 := n2_
          have HB := n3_
          have HO306 := n4_
          clear n0_ n1_ n2_ n3_ n4_
          clear ho hb hg hat
          refine hK.out _ _ ⟨(blk_cell BK256.out 0).trans rfl, (blk_cell BK256.out 1).trans rfl⟩ (fun hHeld => ?_)
          clear hK K
          refine norm_ (a' := ?_) ?_ ?_
          rotate_left
          ·show Act.put _ (some 76) _ = _
           simp only [Act.put, List.setIfInBounds_toArray, List.set_cons_zero, List.set_cons_succ, i64_w, i32_w]
           rfl
          refine pure_ (i := 12) (N := some 6) (v := ?_) (a' := ?_) #[true, true, true, true, true, true, true, true, true, true, true, true, true] rfl rfl (any_of HT_.out (by kernel_rfl)) (fun _ _ _ h => h) (Or.inl ⟨by rfl, ?_⟩) ?_ ?_
          rotate_left
          ·intro w'
           go_simp
           with_reducible rfl
          rotate_left
          ·simp only [Act.put, List.setIfInBounds_toArray, List.set_cons_zero, List.set_cons_succ, i64_w, i32_w]
           rfl
          refine done_ (done_of HT_.out (by kernel_rfl)) ?_
          try go_wp2
          go_ret
          exact ⟨_, rr_, by (with_reducible repeat (first | apply Kd.N_alloc | apply Kd.N_drewN | apply Kd.N_drew)); exact Kd.N_mono HO306.out (fun _ hk => hk.1), bg_ GE256.out⟩
         ·rw [if_neg c96] at H
          exact absurd H (by simp)
        ·rw [if_neg c95] at H
         exact absurd H (by simp)
  ·rw [if_neg c5] at H
   exact absurd H (by simp)
 ·rw [if_neg c4] at H
  exact absurd H (by simp)

def spec_DerivRe.j0 : Nat → List (S49) → Int → Bool → Option ((List (S49)) × Bool)
 | 0, _, _, _ => none
 | k + 1, x0, x1, x14 => if x14 = true then (some (([] : List (S49)), false)) else ((spec_l5Deriv.f k x0 (wrap64 ((x0.length : Int) - 1)) x1).bind fun t337 => ((spec_GoodRe.f k t337).bind fun t340 => (if t340 = true then ((spec_l5Tidy.f k t337 (wrap64 ((t337.length : Int) - 1))).bind fun t341 => ((spec_l5Own.f k t341).bind fun t344 => (some (t344, true)))) else (some (([] : List (S49)), false)))))
def spec_DerivRe.f (k : Nat) (l0 : List (S49)) (a1 : Int) : Option ((List (S49)) × Bool) := (spec_GoodRe.f k l0).bind fun t335 => (if t335 = true then ((spec_GoodRune.f a1).bind fun t336 => (spec_DerivRe.j0 k l0 a1 (!t336))) else (spec_DerivRe.j0 k l0 a1 true))
theorem spec_DerivRe.calls (k : Nat) (A0 : Option Addr) (c0 : Nat) (l0 : List (S49)) (a1 : Int) (r1 : List (S49)) (r2 : Bool) (w : World) (hr0 : Kd.C k49 w A0 l0.length l0) (hc0 : l0.length ≤ c0) (h : spec_DerivRe.f k l0 a1 = some (r1, r2)) :
  Calls Try.prog 37 #[.slice A0 l0.length c0, .int .i64 a1] w fun e w' => ∃ v0_ : Value, e = .returned (.tuple #[v0_, .bool r2]) ∧ Kd.N k49 49 w' w.heap.size (fun k_ => (w.heap.size ≤ k_)) v0_ r1 ∧ Below w.heap.size w w' := by
 have HR0 := Aside0.mk hr0
 have HC0 := Aside0.mk hc0
 clear hr0 hc0
 have HB := Aside0.mk (Below.refl w.heap.size w)
 have H : ((spec_GoodRe.f k l0).bind fun t335 => (if t335 = true then ((spec_GoodRune.f a1).bind fun t336 => (spec_DerivRe.j0 k l0 a1 (!t336))) else (spec_DerivRe.j0 k l0 a1 true))) = some (r1, r2) := h
 clear h
 have HC3 := Aside0.mk H
 clear H
 go_enter Try.func37, Try.ntmps37
 go_upto_region 1 with (fail)
 go_cut [14] (fun v14 wc => ∃ (kq : Nat) (x14_2 : Bool), v14 = .bool x14_2 ∧ Aside0 (spec_DerivRe.j0 kq l0 a1 x14_2 = some (r1, r2)) ∧ Aside0 (kq ≤ k) ∧ Aside0 (Below w.heap.size w wc))
 case first =>
  have H := HC3.out
  clear HC3
  replace H := Option.bind_eq_some_iff.mp H
  obtain ⟨t335, A40, H⟩ := H
  try dsimp only at H
  have A4 := Aside0.mk A40
  clear A40
  by_cases c5 : t335 = true
  ·subst c5
   have H1 := H
   rw [if_pos rfl] at H1
   clear H
   have H := H1
   clear H1
   replace H := Option.bind_eq_some_iff.mp H
   obtain ⟨t336, A60, H⟩ := H
   try dsimp only at H
   have A6 := Aside0.mk A60
   clear A60
   have H' := Aside0.mk H
   clear H
   go_wp2_with (first | ((with_reducible refine gate_callee (f := 14) rfl ?_); refine goesL_ (some 8) rfl rfl Try.func14 (by kernel_rfl) rfl #[.slice A0 l0.length c0] rfl mz_ ?_; (with_reducible refine (spec_GoodRe.calls k _ _ l0 true _ ?side1 ?side2 A4.out).mono ?_); (case side1 => exact cy_ HR0.out HB.out); (case side2 => exact HC0.out); rintro e w7 ⟨rfl, hb⟩; refine ⟨_, rfl, ?_⟩; have n0_ := Aside0.mk (below_step bz_ hb); clear HB; have HB := n0_; clear n0_; ) | (go_at_call 73; (with_reducible refine (spec_GoodRune.calls a1 t336 _ A6.out).mono ?_); rintro e w' ⟨rfl, ⟨nd, rfl⟩⟩))
   go_meet
   case rel => exact ⟨_, (!t336), rs_, H', ⟨by first | omega | exact Nat.le_refl _⟩, ⟨bz_⟩⟩
  ·replace c5 := Bool.eq_false_iff.mpr c5
   subst c5
   have H1 := H
   rw [if_neg (show ¬ (false = true) by decide)] at H1
   clear H
   have H := H1
   clear H1
   have H' := Aside0.mk H
   clear H
   go_wp2_with (first | ((with_reducible refine gate_callee (f := 14) rfl ?_); refine goesL_ (some 8) rfl rfl Try.func14 (by kernel_rfl) rfl #[.slice A0 l0.length c0] rfl mz_ ?_; (with_reducible refine (spec_GoodRe.calls k _ _ l0 false _ ?side1 ?side2 A4.out).mono ?_); (case side1 => exact cy_ HR0.out HB.out); (case side2 => exact HC0.out); rintro e w8 ⟨rfl, hb⟩; refine ⟨_, rfl, ?_⟩; have n0_ := Aside0.mk (below_step bz_ hb); clear HB; have HB := n0_; clear n0_; ))
   go_meet
   case rel => exact ⟨_, (true), rs_, H', ⟨by first | omega | exact Nat.le_refl _⟩, ⟨bz_⟩⟩
 case rest =>
  clear HC3
  try clear c1
  try clear p2
  try clear c3
  try clear c5
  obtain ⟨kq, x14_2, rfl, HA, HJ2, HB⟩ := hcut
  cases kq with
  | zero => exact absurd HA.out (by simp [spec_DerivRe.j0])
  | succ kj2 =>
   have H := HA.out
   clear HA
   simp only [spec_DerivRe.j0] at H
   by_cases c9 : x14_2 = true
   ·subst c9
    have H1 := H
    rw [if_pos rfl] at H1
    clear H
    have H := H1
    clear H1
    simp only [Option.some.injEq, Prod.mk.injEq] at H
    obtain ⟨rfl, rfl⟩ := H
    go_wp2
    go_ret2
    exact ⟨_, rr_, by first | exact Kd.S_nil _ _ _ _ _ | exact Kd.N_nil _ _ _ _ _ | exact Kd.V_nil _ _ _ _ _ | exact Kd.R_nil _ _ _ _ _, bz_⟩
   ·replace c9 := Bool.eq_false_iff.mpr c9
    subst c9
    have H1 := H
    rw [if_neg (show ¬ (false = true) by decide)] at H1
    clear H
    have H := H1
    clear H1
    replace H := Option.bind_eq_some_iff.mp H
    obtain ⟨t337, A100, H⟩ := H
    try dsimp only at H
    have A10 := Aside0.mk A100
    clear A100
    replace H := Option.bind_eq_some_iff.mp H
    obtain ⟨t340, A110, H⟩ := H
    try dsimp only at H
    have A11 := Aside0.mk A110
    clear A110
    by_cases c12 : t340 = true
    ·subst c12
     have H1 := H
     rw [if_pos rfl] at H1
     clear H
     have H := H1
     clear H1
     replace H := Option.bind_eq_some_iff.mp H
     obtain ⟨t341, A130, H⟩ := H
     try dsimp only at H
     have A13 := Aside0.mk A130
     clear A130
     replace H := Option.bind_eq_some_iff.mp H
     obtain ⟨t344, A140, H⟩ := H
     try dsimp only at H
     have A14 := Aside0.mk A140
     clear A140
     simp only [Option.some.injEq, Prod.mk.injEq] at H
     obtain ⟨rfl, rfl⟩ := H
     go_wp2_with (first | ((with_reducible refine gate_callee (f := 74) rfl ?_); refine goesL_ (some 20) rfl rfl Try.func74 (by kernel_rfl) rfl #[.slice A0 l0.length c0, .int .i64 (wrap64 ((l0.length : Int) - 1)), .int .i64 a1] rfl mz_ ?_; (with_reducible refine (spec_l5Deriv.calls kj2 _ _ l0 (wrap64 ((l0.length : Int) - 1)) a1 t337 _ ?side1 ?side2 A10.out).mono ?_); (case side1 => exact cy_ HR0.out HB.out); (case side2 => exact HC0.out); rintro e w15 ⟨v338, rfl, ho0, hb⟩; refine ⟨_, rfl, ?_⟩; have n0_ := Aside0.mk (Kd.N_lower (Kd.N_mono (ok' := fun k_ => (w.heap.size ≤ k_)) ho0 (fun k_ hk_ => (Nat.le_trans (below_size bz_) hk_))) (below_size bz_)); have n1_ := Aside0.mk (below_step bz_ hb); clear HB; have HO339 := n0_; have HB := n1_; clear n0_ n1_; (try clear ho0); obtain ⟨Ao16, co16, eo16⟩ := Kd.N_slice HO339.out; subst eo16) | ((with_reducible refine gate_callee (f := 14) rfl ?_); refine goesL_ (some 22) rfl rfl Try.func14 (by kernel_rfl) rfl #[.slice Ao16 t337.length co16] rfl mz_ ?_; (with_reducible refine (spec_GoodRe.calls kj2 _ _ t337 true _ ?side1 ?side2 A11.out).mono ?_); (case side1 => repeat (first | exact (Kd.N_reads' HO339.out).2.2 | (with_reducible refine Kd.C_alloc ?_ _) | (with_reducible refine Kd.C_drewN ?_ _) | (with_reducible refine Kd.C_drew ?_))); (case side2 => exact (Kd.N_reads' HO339.out).2.1); rintro e w17 ⟨rfl, hb⟩; refine ⟨_, rfl, ?_⟩; have n0_ := Aside0.mk (Kd.N_below (nz_ HO339.out) hb); have n1_ := Aside0.mk (below_step bz_ hb); clear HO339; clear HB; have HO339 := n0_; have HB := n1_; clear n0_ n1_; ) | ((with_reducible refine gate_callee (f := 68) rfl ?_); refine goesL_ (some 28) rfl rfl Try.func68 (by kernel_rfl) rfl #[.slice Ao16 t337.length co16, .int .i64 (wrap64 ((t337.length : Int) - 1))] rfl mz_ ?_; (with_reducible refine (spec_l5Tidy.calls kj2 _ _ t337 (wrap64 ((t337.length : Int) - 1)) t341 _ ?side1 ?side2 A13.out).mono ?_); (case side1 => repeat (first | exact (Kd.N_reads' HO339.out).2.2 | (with_reducible refine Kd.C_alloc ?_ _) | (with_reducible refine Kd.C_drewN ?_ _) | (with_reducible refine Kd.C_drew ?_))); (case side2 => exact (Kd.N_reads' HO339.out).2.1); rintro e w18 ⟨v342, rfl, ho0, hb⟩; refine ⟨_, rfl, ?_⟩; have n0_ := Aside0.mk (Kd.N_elder' (nz_ HO339.out) (kb_ ho0) hb); have n1_ := Aside0.mk (Kd.N_lower (Kd.N_mono (ok' := fun k_ => (w.heap.size ≤ k_) ∧ some k_ ≠ (.slice Ao16 t337.length co16 : Value).ownBlock) (Kd.N_mono (ok' := fun k_ => True ∧ _ ≤ k_ ∧ True) ho0 (fun _ h_ => ⟨trivial, h_, trivial⟩)) (fun k_ hk_ => ⟨(Nat.le_trans (below_size bz_) hk_.2.1), (Kd.fresh' (Kd.N_lt (nz_ HO339.out)) k_ hk_.2.1)⟩)) (below_size bz_)); have n2_ := Aside0.mk (below_step bz_ hb); clear HO339; clear HB; have HO339 := n0_; have HO343 := n1_; have HB := n2_; clear n0_ n1_ n2_; (try clear ho0); obtain ⟨Ao19, co19, eo19⟩ := Kd.N_slice HO343.out; subst eo19) | ((with_reducible refine gate_callee (f := 65) rfl ?_); refine goesL_ (some 29) rfl rfl Try.func65 (by kernel_rfl) rfl #[.slice Ao19 t341.length co19] rfl mz_ ?_; (with_reducible refine (spec_l5Own.calls kj2 _ _ t341 t344 _ ?side1 ?side2 A14.out).mono ?_); (case side1 => repeat (first | exact (Kd.N_reads' HO343.out).2.2 | (with_reducible refine Kd.C_alloc ?_ _) | (with_reducible refine Kd.C_drewN ?_ _) | (with_reducible refine Kd.C_drew ?_))); (case side2 => exact (Kd.N_reads' HO343.out).2.1); rintro e w20 ⟨v345, rfl, ho0, hb⟩; refine ⟨_, rfl, ?_⟩; have n0_ := Aside0.mk (Kd.N_elder' (nz_ HO339.out) (kb_ ho0) hb); have n1_ := Aside0.mk (Kd.N_elder' (nz_ HO343.out) (kb_ ho0) hb); have n2_ := Aside0.mk (Kd.N_lower (Kd.N_mono (ok' := fun k_ => (w.heap.size ≤ k_) ∧ some k_ ≠ (.slice Ao16 t337.length co16 : Value).ownBlock ∧ some k_ ≠ (.slice Ao19 t341.length co19 : Value).ownBlock) (Kd.S_N (Kd.S_bound ho0)) (fun k_ hk_ => ⟨(Nat.le_trans (below_size bz_) hk_.2.1), (Kd.fresh' (Kd.N_lt (nz_ HO339.out)) k_ hk_.2.1), (Kd.fresh' (Kd.N_lt (nz_ HO343.out)) k_ hk_.2.1)⟩)) (below_size bz_)); have n3_ := Aside0.mk (below_step bz_ hb); clear HO339; clear HO343; clear HB; have HO339 := n0_; have HO343 := n1_; have HO346 := n2_; have HB := n3_; clear n0_ n1_ n2_ n3_; (try clear ho0)))
     go_ret2
     exact ⟨_, rr_, by (with_reducible repeat (first | apply Kd.N_alloc | apply Kd.N_drewN | apply Kd.N_drew)); exact Kd.N_mono HO346.out (fun _ hk => hk.1), bz_⟩
    ·replace c12 := Bool.eq_false_iff.mpr c12
     subst c12
     have H1 := H
     rw [if_neg (show ¬ (false = true) by decide)] at H1
     clear H
     have H := H1
     clear H1
     simp only [Option.some.injEq, Prod.mk.injEq] at H
     obtain ⟨rfl, rfl⟩ := H
     go_wp2_with (first | ((with_reducible refine gate_callee (f := 74) rfl ?_); refine goesL_ (some 20) rfl rfl Try.func74 (by kernel_rfl) rfl #[.slice A0 l0.length c0, .int .i64 (wrap64 ((l0.length : Int) - 1)), .int .i64 a1] rfl mz_ ?_; (with_reducible refine (spec_l5Deriv.calls kj2 _ _ l0 (wrap64 ((l0.length : Int) - 1)) a1 t337 _ ?side1 ?side2 A10.out).mono ?_); (case side1 => exact cy_ HR0.out HB.out); (case side2 => exact HC0.out); rintro e w21 ⟨v338, rfl, ho0, hb⟩; refine ⟨_, rfl, ?_⟩; have n0_ := Aside0.mk (Kd.N_lower (Kd.N_mono (ok' := fun k_ => (w.heap.size ≤ k_)) ho0 (fun k_ hk_ => (Nat.le_trans (below_size bz_) hk_))) (below_size bz_)); have n1_ := Aside0.mk (below_step bz_ hb); clear HB; have HO339 := n0_; have HB := n1_; clear n0_ n1_; (try clear ho0); obtain ⟨Ao22, co22, eo22⟩ := Kd.N_slice HO339.out; subst eo22) | ((with_reducible refine gate_callee (f := 14) rfl ?_); refine goesL_ (some 22) rfl rfl Try.func14 (by kernel_rfl) rfl #[.slice Ao22 t337.length co22] rfl mz_ ?_; (with_reducible refine (spec_GoodRe.calls kj2 _ _ t337 false _ ?side1 ?side2 A11.out).mono ?_); (case side1 => repeat (first | exact (Kd.N_reads' HO339.out).2.2 | (with_reducible refine Kd.C_alloc ?_ _) | (with_reducible refine Kd.C_drewN ?_ _) | (with_reducible refine Kd.C_drew ?_))); (case side2 => exact (Kd.N_reads' HO339.out).2.1); rintro e w23 ⟨rfl, hb⟩; refine ⟨_, rfl, ?_⟩; have n0_ := Aside0.mk (Kd.N_below (nz_ HO339.out) hb); have n1_ := Aside0.mk (below_step bz_ hb); clear HO339; clear HB; have HO339 := n0_; have HB := n1_; clear n0_ n1_; ))
     go_ret2
     exact ⟨_, rr_, by first | exact Kd.S_nil _ _ _ _ _ | exact Kd.N_nil _ _ _ _ _ | exact Kd.V_nil _ _ _ _ _ | exact Kd.R_nil _ _ _ _ _, bz_⟩

def impl_inRange.f (a0 : Int) (a1 : Int) (a2 : Int) : Option (Bool) := if a1 ≤ a0 then (some (decide (a0 ≤ a2))) else (some false)
theorem impl_inRange.calls (a0 : Int) (a1 : Int) (a2 : Int) (r : Bool) (w : World) (h : impl_inRange.f a0 a1 a2 = some r) :
  Calls Try.prog 44 #[.int .i64 a0, .int .i64 a1, .int .i64 a2] w fun e w' => e = .returned (.bool r) ∧ Drawn0 w w' := by
 have H : (if a1 ≤ a0 then (some (decide (a0 ≤ a2))) else (some false)) = some r := h
 clear h
 by_cases c4 : a1 ≤ a0
 ·rw [if_pos c4] at H
  have c4b0 := decide_eq_true c4
  clear c4
  obtain rfl := Option.some.inj H
  go_enter Try.func44, Try.ntmps44
  go_wp2
  go_ret
  exact ⟨rs_, dr_⟩
 ·rw [if_neg c4] at H
  have c4b0 := decide_eq_false c4
  clear c4
  obtain rfl := Option.some.inj H
  go_enter Try.func44, Try.ntmps44
  go_wp2
  go_ret
  exact ⟨rs_, dr_⟩

end Go.Proofs.Ytlmpeaelpchokaa.HFnExactDerivRe
