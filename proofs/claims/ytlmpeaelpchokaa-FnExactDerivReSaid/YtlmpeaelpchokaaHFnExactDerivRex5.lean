/- Written by wip/pr.py of this session, for the law FnExactDerivRe: Lean functions with the answers of the program's, and the proofs of that; where the kit's print has no word, by hand. -/
import Derived.Test.YtlmpeaelpchokaaHFnExactDerivRex0
import Derived.Test.YtlmpeaelpchokaaHFnExactDerivRex3
import Derived.Test.YtlmpeaelpchokaaHFnExactDerivRex4
namespace Go.Proofs.Ytlmpeaelpchokaa.HFnExactDerivRe
set_option maxHeartbeats 8000000
set_option maxRecDepth 100000
open Go.RowKit Go.Proofs.YtlmpeaelpchokaaW.PrintWords Go.Proofs.YtlmpeaelpchokaaW.PrintLast Go.Proofs.YtlmpeaelpchokaaW.PrintMore

set_option linter.unusedVariables false
set_option linter.unusedSimpArgs false

mutual
def spec_l5Cell.l0 : Nat → List (List Bool) → List Bool → Int → Int → Int → Int → Int → Option (Bool)
 | 0, _, _, _, _, _, _, _ => none
 | k + 1, x1, x2, x4, x6, x7, x17, x18 => if x18 ≤ x7 then (if 0 ≤ (wrap64 (x4 - 1)) then (if (wrap64 (x4 - 1)) < (x1.length : Int) then (if 0 ≤ (wrap64 ((wrap64 (x6 * x17)) + x18)) then (if (wrap64 ((wrap64 (x6 * x17)) + x18)) < ((rd_L6 x1 (wrap64 (x4 - 1))).length : Int) then (if rdOf false (rd_L6 x1 (wrap64 (x4 - 1))) (wrap64 ((wrap64 (x6 * x17)) + x18)) = true then (if x18 = x7 then (some true) else (if 0 ≤ (wrap64 ((wrap64 (x18 * x17)) + x7)) then (if (wrap64 ((wrap64 (x18 * x17)) + x7)) < (x2.length : Int) then (if rdOf false x2 (wrap64 ((wrap64 (x18 * x17)) + x7)) = true then (some true) else (spec_l5Cell.l0 k x1 x2 x4 x6 x7 x17 (wrap64 (x18 + 1)))) else (none)) else (none))) else (spec_l5Cell.l0 k x1 x2 x4 x6 x7 x17 (wrap64 (x18 + 1)))) else (none)) else (none)) else (none)) else (none)) else (some false)
def spec_l5Cell.l1 : Nat → Int → Int → Int → List Bool → List Bool → Int → Option (Bool)
 | 0, _, _, _, _, _, _ => none
 | k + 1, x6, x7, x17, x19, x20, x21 => if x21 ≤ x7 then (if 0 ≤ (wrap64 ((wrap64 (x6 * x17)) + x21)) then (if (wrap64 ((wrap64 (x6 * x17)) + x21)) < (x19.length : Int) then (if rdOf false x19 (wrap64 ((wrap64 (x6 * x17)) + x21)) = true then (if 0 ≤ (wrap64 ((wrap64 (x21 * x17)) + x7)) then (if (wrap64 ((wrap64 (x21 * x17)) + x7)) < (x20.length : Int) then (if rdOf false x20 (wrap64 ((wrap64 (x21 * x17)) + x7)) = true then (some true) else (spec_l5Cell.l1 k x6 x7 x17 x19 x20 (wrap64 (x21 + 1)))) else (none)) else (none)) else (spec_l5Cell.l1 k x6 x7 x17 x19 x20 (wrap64 (x21 + 1)))) else (none)) else (none)) else (some false)
end
def spec_l5Cell.f (k : Nat) (l0 : List (S49)) (l1 : List (List Bool)) (l2 : List Bool) (l3 : List Int) (a4 : Int) (a5_0 : Int) (l5_1 : List Int) (a6 : Int) (a7 : Int) : Option (Bool) := if a5_0 = 1 then (some (a6 == a7)) else (if a5_0 = 2 then (if a7 = (wrap64 (a6 + 1)) then (if 0 ≤ a6 then (if a6 < (l3.length : Int) then ((spec_l4In.f k l5_1 (rd l3 a6)).bind fun t195 => (some t195)) else (none)) else (none)) else (some false)) else (if a5_0 = 7 then (if 0 ≤ (wrap64 (a4 - 1)) then (if (wrap64 (a4 - 1)) < (l1.length : Int) then (if 0 ≤ (wrap64 ((wrap64 (a6 * (wrap64 ((l3.length : Int) + 1)))) + a7)) then (if (wrap64 ((wrap64 (a6 * (wrap64 ((l3.length : Int) + 1)))) + a7)) < ((rd_L6 l1 (wrap64 (a4 - 1))).length : Int) then (some (!(rdOf false (rd_L6 l1 (wrap64 (a4 - 1))) (wrap64 ((wrap64 (a6 * (wrap64 ((l3.length : Int) + 1)))) + a7))))) else (none)) else (none)) else (none)) else (none)) else (if a5_0 = 6 then (if a6 = a7 then (some true) else (spec_l5Cell.l0 k l1 l2 a4 a6 a7 (wrap64 ((l3.length : Int) + 1)) (wrap64 (a6 + 1)))) else ((spec_l5First.f k l0 a4).bind fun t201 => (if 0 ≤ t201 then (if t201 < (l1.length : Int) then (if 0 ≤ (wrap64 (a4 - 1)) then (if (wrap64 (a4 - 1)) < (l1.length : Int) then (if a5_0 = 4 then (if 0 ≤ (wrap64 ((wrap64 (a6 * (wrap64 ((l3.length : Int) + 1)))) + a7)) then (if (wrap64 ((wrap64 (a6 * (wrap64 ((l3.length : Int) + 1)))) + a7)) < ((rd_L6 l1 t201).length : Int) then (if rdOf false (rd_L6 l1 t201) (wrap64 ((wrap64 (a6 * (wrap64 ((l3.length : Int) + 1)))) + a7)) = true then (some true) else (if (wrap64 ((wrap64 (a6 * (wrap64 ((l3.length : Int) + 1)))) + a7)) < ((rd_L6 l1 (wrap64 (a4 - 1))).length : Int) then (some (rdOf false (rd_L6 l1 (wrap64 (a4 - 1))) (wrap64 ((wrap64 (a6 * (wrap64 ((l3.length : Int) + 1)))) + a7)))) else (none))) else (none)) else (none)) else (if a5_0 = 5 then (if 0 ≤ (wrap64 ((wrap64 (a6 * (wrap64 ((l3.length : Int) + 1)))) + a7)) then (if (wrap64 ((wrap64 (a6 * (wrap64 ((l3.length : Int) + 1)))) + a7)) < ((rd_L6 l1 t201).length : Int) then (if rdOf false (rd_L6 l1 t201) (wrap64 ((wrap64 (a6 * (wrap64 ((l3.length : Int) + 1)))) + a7)) = true then (if (wrap64 ((wrap64 (a6 * (wrap64 ((l3.length : Int) + 1)))) + a7)) < ((rd_L6 l1 (wrap64 (a4 - 1))).length : Int) then (some (rdOf false (rd_L6 l1 (wrap64 (a4 - 1))) (wrap64 ((wrap64 (a6 * (wrap64 ((l3.length : Int) + 1)))) + a7)))) else (none)) else (some false)) else (none)) else (none)) else (spec_l5Cell.l1 k a6 a7 (wrap64 ((l3.length : Int) + 1)) (rd_L6 l1 t201) (rd_L6 l1 (wrap64 (a4 - 1))) a6))) else (none)) else (none)) else (none)) else (none))))))
theorem spec_l5Cell.calls (k : Nat) (A0 : Option Addr) (c0 : Nat) (l0 : List (S49)) (A1 : Option Addr) (c1 : Nat) (l1 : List (List Bool)) (A2 : Option Addr) (c2 : Nat) (l2 : List Bool) (A3 : Option Addr) (c3 : Nat) (l3 : List Int) (a4 : Int) (a5_0 : Int) (A5_1 : Option Addr) (c5_1 : Nat) (l5_1 : List Int) (a6 : Int) (a7 : Int) (r : Bool) (w : World) (hr0 : Kd.C k49 w A0 l0.length l0) (hc0 : l0.length ≤ c0) (hr1 : Kd.C (Kd.slice 4 Kd.bool) w A1 l1.length l1) (hc1 : l1.length ≤ c1) (hr2 : Kd.C Kd.bool w A2 l2.length l2) (hc2 : l2.length ≤ c2) (hr3 : Kd.C (Kd.int .i64) w A3 l3.length l3) (hc3 : l3.length ≤ c3) (hr5_1 : Kd.C (Kd.int .i64) w A5_1 l5_1.length l5_1) (hc5_1 : l5_1.length ≤ c5_1) (h : spec_l5Cell.f k l0 l1 l2 l3 a4 a5_0 l5_1 a6 a7 = some r) :
  Calls Try.prog 114 #[.slice A0 l0.length c0, .slice A1 l1.length c1, .slice A2 l2.length c2, .slice A3 l3.length c3, .int .i64 a4, .agg #[.int .i64 a5_0, .slice A5_1 l5_1.length c5_1], .int .i64 a6, .int .i64 a7] w fun e w' => e = .returned (.bool r) ∧ Below w.heap.size w w' := by
 have hu49 := Try.underlying49
 have HR0 := Aside0.mk hr0
 have HC0 := Aside0.mk hc0
 clear hr0 hc0
 have HR1 := Aside0.mk hr1
 have HC1 := Aside0.mk hc1
 clear hr1 hc1
 have HR2 := Aside0.mk hr2
 have HC2 := Aside0.mk hc2
 clear hr2 hc2
 have HR3 := Aside0.mk hr3
 have HC3 := Aside0.mk hc3
 clear hr3 hc3
 have HR5_1 := Aside0.mk hr5_1
 have HC5_1 := Aside0.mk hc5_1
 clear hr5_1 hc5_1
 have HB := Aside0.mk (Below.refl w.heap.size w)
 have H : (if a5_0 = 1 then (some (a6 == a7)) else (if a5_0 = 2 then (if a7 = (wrap64 (a6 + 1)) then (if 0 ≤ a6 then (if a6 < (l3.length : Int) then ((spec_l4In.f k l5_1 (rd l3 a6)).bind fun t195 => (some t195)) else (none)) else (none)) else (some false)) else (if a5_0 = 7 then (if 0 ≤ (wrap64 (a4 - 1)) then (if (wrap64 (a4 - 1)) < (l1.length : Int) then (if 0 ≤ (wrap64 ((wrap64 (a6 * (wrap64 ((l3.length : Int) + 1)))) + a7)) then (if (wrap64 ((wrap64 (a6 * (wrap64 ((l3.length : Int) + 1)))) + a7)) < ((rd_L6 l1 (wrap64 (a4 - 1))).length : Int) then (some (!(rdOf false (rd_L6 l1 (wrap64 (a4 - 1))) (wrap64 ((wrap64 (a6 * (wrap64 ((l3.length : Int) + 1)))) + a7))))) else (none)) else (none)) else (none)) else (none)) else (if a5_0 = 6 then (if a6 = a7 then (some true) else (spec_l5Cell.l0 k l1 l2 a4 a6 a7 (wrap64 ((l3.length : Int) + 1)) (wrap64 (a6 + 1)))) else ((spec_l5First.f k l0 a4).bind fun t201 => (if 0 ≤ t201 then (if t201 < (l1.length : Int) then (if 0 ≤ (wrap64 (a4 - 1)) then (if (wrap64 (a4 - 1)) < (l1.length : Int) then (if a5_0 = 4 then (if 0 ≤ (wrap64 ((wrap64 (a6 * (wrap64 ((l3.length : Int) + 1)))) + a7)) then (if (wrap64 ((wrap64 (a6 * (wrap64 ((l3.length : Int) + 1)))) + a7)) < ((rd_L6 l1 t201).length : Int) then (if rdOf false (rd_L6 l1 t201) (wrap64 ((wrap64 (a6 * (wrap64 ((l3.length : Int) + 1)))) + a7)) = true then (some true) else (if (wrap64 ((wrap64 (a6 * (wrap64 ((l3.length : Int) + 1)))) + a7)) < ((rd_L6 l1 (wrap64 (a4 - 1))).length : Int) then (some (rdOf false (rd_L6 l1 (wrap64 (a4 - 1))) (wrap64 ((wrap64 (a6 * (wrap64 ((l3.length : Int) + 1)))) + a7)))) else (none))) else (none)) else (none)) else (if a5_0 = 5 then (if 0 ≤ (wrap64 ((wrap64 (a6 * (wrap64 ((l3.length : Int) + 1)))) + a7)) then (if (wrap64 ((wrap64 (a6 * (wrap64 ((l3.length : Int) + 1)))) + a7)) < ((rd_L6 l1 t201).length : Int) then (if rdOf false (rd_L6 l1 t201) (wrap64 ((wrap64 (a6 * (wrap64 ((l3.length : Int) + 1)))) + a7)) = true then (if (wrap64 ((wrap64 (a6 * (wrap64 ((l3.length : Int) + 1)))) + a7)) < ((rd_L6 l1 (wrap64 (a4 - 1))).length : Int) then (some (rdOf false (rd_L6 l1 (wrap64 (a4 - 1))) (wrap64 ((wrap64 (a6 * (wrap64 ((l3.length : Int) + 1)))) + a7)))) else (none)) else (some false)) else (none)) else (none)) else (spec_l5Cell.l1 k a6 a7 (wrap64 ((l3.length : Int) + 1)) (rd_L6 l1 t201) (rd_L6 l1 (wrap64 (a4 - 1))) a6))) else (none)) else (none)) else (none)) else (none))))))) = some r := h
 clear h
 by_cases c9 : a5_0 = 1
 ·rw [if_pos c9] at H
  have c9b0 := q1_ c9
  have c9b1 := q2_ c9
  clear c9
  obtain rfl := Option.some.inj H
  go_enter Try.func114, Try.ntmps114
  go_wp2_with (first | ((with_reducible refine gate_dst (N := 13) rfl ?_); refine box_event ?hg (N := 13) ?hd (cs := #[.int .i64 a5_0, .slice A5_1 l5_1.length c5_1]) (t := 49) ?hr ?_; (case hd => rfl); (case hg => rfl); (case hr => first | (go_simp; done) | (go_simp; rfl)); intro gb193 hg w10 hbox hb; have n0_ := Aside0.mk (below_step bz_ hb); have n1_ := Aside0.mk (hbox); have n2_ := Aside0.mk ((hz_ hg : w.heap.size ≤ gb193)); have n3_ := Aside0.mk ((hz_ hg : w.heap.size ≤ gb193)); clear HB; have HB := n0_; have BK193 := n1_; have GW193 := n2_; have GE193 := n3_; clear n0_ n1_ n2_ n3_; clear hb hbox hg; have hcz11_0 : w10.cell? ⟨gb193, 0, none⟩ = some (.int .i64 a5_0) := (blk_cell BK193.out 0).trans rfl; have hcz11_1 : w10.cell? ⟨gb193, 1, none⟩ = some (.slice A5_1 l5_1.length c5_1) := (blk_cell BK193.out 1).trans rfl; have hfz11_0 := blk_frozen BK193.out 0; have hfz11_1 := blk_frozen BK193.out 1))
  repeat (go_quiet (first | ((with_reducible refine gate_dst (N := 13) rfl ?_); refine box_event ?hg (N := 13) ?hd (cs := #[.int .i64 a5_0, .slice A5_1 l5_1.length c5_1]) (t := 49) ?hr ?_; (case hd => rfl); (case hg => rfl); (case hr => first | (go_simp; done) | (go_simp; rfl)); intro gb193 hg w10 hbox hb; have n0_ := Aside0.mk (below_step bz_ hb); have n1_ := Aside0.mk (hbox); have n2_ := Aside0.mk ((hz_ hg : w.heap.size ≤ gb193)); have n3_ := Aside0.mk ((hz_ hg : w.heap.size ≤ gb193)); clear HB; have HB := n0_; have BK193 := n1_; have GW193 := n2_; have GE193 := n3_; clear n0_ n1_ n2_ n3_; clear hb hbox hg; have hcz11_0 : w10.cell? ⟨gb193, 0, none⟩ = some (.int .i64 a5_0) := (blk_cell BK193.out 0).trans rfl; have hcz11_1 : w10.cell? ⟨gb193, 1, none⟩ = some (.slice A5_1 l5_1.length c5_1) := (blk_cell BK193.out 1).trans rfl; have hfz11_0 := blk_frozen BK193.out 0; have hfz11_1 := blk_frozen BK193.out 1)); try go_wp2_with (first | ((with_reducible refine gate_dst (N := 13) rfl ?_); refine box_event ?hg (N := 13) ?hd (cs := #[.int .i64 a5_0, .slice A5_1 l5_1.length c5_1]) (t := 49) ?hr ?_; (case hd => rfl); (case hg => rfl); (case hr => first | (go_simp; done) | (go_simp; rfl)); intro gb193 hg w10 hbox hb; have n0_ := Aside0.mk (below_step bz_ hb); have n1_ := Aside0.mk (hbox); have n2_ := Aside0.mk ((hz_ hg : w.heap.size ≤ gb193)); have n3_ := Aside0.mk ((hz_ hg : w.heap.size ≤ gb193)); clear HB; have HB := n0_; have BK193 := n1_; have GW193 := n2_; have GE193 := n3_; clear n0_ n1_ n2_ n3_; clear hb hbox hg; have hcz11_0 : w10.cell? ⟨gb193, 0, none⟩ = some (.int .i64 a5_0) := (blk_cell BK193.out 0).trans rfl; have hcz11_1 : w10.cell? ⟨gb193, 1, none⟩ = some (.slice A5_1 l5_1.length c5_1) := (blk_cell BK193.out 1).trans rfl; have hfz11_0 := blk_frozen BK193.out 0; have hfz11_1 := blk_frozen BK193.out 1)))
  go_ret
  exact ⟨rr_, bg_ GE193.out⟩
 ·rw [if_neg c9] at H
  have c9b0 := q3_ c9
  have c9b1 := q4_ c9
  by_cases c12 : a5_0 = 2
  ·rw [if_pos c12] at H
   have c12b0 := q1_ c12
   have c12b1 := q2_ c12
   clear c12
   by_cases c13 : a7 = (wrap64 (a6 + 1))
   ·rw [if_pos c13] at H
    have c13b0 := q1_ c13
    have c13b1 := q2_ c13
    clear c13
    by_cases c14 : 0 ≤ a6
    ·rw [if_pos c14] at H
     have c14b0 := decide_eq_true c14
     clear c14
     by_cases c15 : a6 < (l3.length : Int)
     ·rw [if_pos c15] at H
      have c15b0 := decide_eq_true c15
      clear c15
      replace H := Option.bind_eq_some_iff.mp H
      obtain ⟨t195, A160, H⟩ := H
      try dsimp only at H
      have A16 := Aside0.mk A160
      clear A160
      obtain rfl := Option.some.inj H
      go_enter Try.func114, Try.ntmps114
      go_wp2_with (first | ((with_reducible refine gate_dst (N := 13) rfl ?_); refine box_event ?hg (N := 13) ?hd (cs := #[.int .i64 a5_0, .slice A5_1 l5_1.length c5_1]) (t := 49) ?hr ?_; (case hd => rfl); (case hg => rfl); (case hr => first | (go_simp; done) | (go_simp; rfl)); intro gb193 hg w17 hbox hb; have n0_ := Aside0.mk (below_step bz_ hb); have n1_ := Aside0.mk (hbox); have n2_ := Aside0.mk ((hz_ hg : w.heap.size ≤ gb193)); have n3_ := Aside0.mk ((hz_ hg : w.heap.size ≤ gb193)); clear HB; have HB := n0_; have BK193 := n1_; have GW193 := n2_; have GE193 := n3_; clear n0_ n1_ n2_ n3_; clear hb hbox hg; have hcz18_0 : w17.cell? ⟨gb193, 0, none⟩ = some (.int .i64 a5_0) := (blk_cell BK193.out 0).trans rfl; have hcz18_1 : w17.cell? ⟨gb193, 1, none⟩ = some (.slice A5_1 l5_1.length c5_1) := (blk_cell BK193.out 1).trans rfl; have hfz18_0 := blk_frozen BK193.out 0; have hfz18_1 := blk_frozen BK193.out 1; have p194 : 0 ≤ (a6 : Int) := of_decide_eq_true az_; have q194 : a6 < (l3.length : Int) := of_decide_eq_true az_; obtain ⟨ad194, e194, hx194_0⟩ := Kd.at_int HR3.out a6 p194 q194; cases e194; replace hx194_0 := (HB.out.cell (World.block_lt_of_cell? w _ hx194_0)).trans hx194_0; replace p194 := eq_true p194; replace q194 := eq_true q194) | (go_at_call 100; (with_reducible refine (spec_l4In.calls k _ _ l5_1 (rd l3 a6) t195 _ ?side1 ?side2 A16.out).mono ?_); (case side1 => exact cy_ HR5_1.out HB.out); (case side2 => exact HC5_1.out); rintro e w' ⟨rfl, ⟨nd, rfl⟩⟩; (try exact dw_)))
      repeat (go_quiet (first | ((with_reducible refine gate_dst (N := 13) rfl ?_); refine box_event ?hg (N := 13) ?hd (cs := #[.int .i64 a5_0, .slice A5_1 l5_1.length c5_1]) (t := 49) ?hr ?_; (case hd => rfl); (case hg => rfl); (case hr => first | (go_simp; done) | (go_simp; rfl)); intro gb193 hg w17 hbox hb; have n0_ := Aside0.mk (below_step bz_ hb); have n1_ := Aside0.mk (hbox); have n2_ := Aside0.mk ((hz_ hg : w.heap.size ≤ gb193)); have n3_ := Aside0.mk ((hz_ hg : w.heap.size ≤ gb193)); clear HB; have HB := n0_; have BK193 := n1_; have GW193 := n2_; have GE193 := n3_; clear n0_ n1_ n2_ n3_; clear hb hbox hg; have hcz18_0 : w17.cell? ⟨gb193, 0, none⟩ = some (.int .i64 a5_0) := (blk_cell BK193.out 0).trans rfl; have hcz18_1 : w17.cell? ⟨gb193, 1, none⟩ = some (.slice A5_1 l5_1.length c5_1) := (blk_cell BK193.out 1).trans rfl; have hfz18_0 := blk_frozen BK193.out 0; have hfz18_1 := blk_frozen BK193.out 1; have p194 : 0 ≤ (a6 : Int) := of_decide_eq_true az_; have q194 : a6 < (l3.length : Int) := of_decide_eq_true az_; obtain ⟨ad194, e194, hx194_0⟩ := Kd.at_int HR3.out a6 p194 q194; cases e194; replace hx194_0 := (HB.out.cell (World.block_lt_of_cell? w _ hx194_0)).trans hx194_0; replace p194 := eq_true p194; replace q194 := eq_true q194) | (go_at_call 100; (with_reducible refine (spec_l4In.calls k _ _ l5_1 (rd l3 a6) t195 _ ?side1 ?side2 A16.out).mono ?_); (case side1 => exact cy_ HR5_1.out HB.out); (case side2 => exact HC5_1.out); rintro e w' ⟨rfl, ⟨nd, rfl⟩⟩; (try exact dw_))); try go_wp2_with (first | ((with_reducible refine gate_dst (N := 13) rfl ?_); refine box_event ?hg (N := 13) ?hd (cs := #[.int .i64 a5_0, .slice A5_1 l5_1.length c5_1]) (t := 49) ?hr ?_; (case hd => rfl); (case hg => rfl); (case hr => first | (go_simp; done) | (go_simp; rfl)); intro gb193 hg w17 hbox hb; have n0_ := Aside0.mk (below_step bz_ hb); have n1_ := Aside0.mk (hbox); have n2_ := Aside0.mk ((hz_ hg : w.heap.size ≤ gb193)); have n3_ := Aside0.mk ((hz_ hg : w.heap.size ≤ gb193)); clear HB; have HB := n0_; have BK193 := n1_; have GW193 := n2_; have GE193 := n3_; clear n0_ n1_ n2_ n3_; clear hb hbox hg; have hcz18_0 : w17.cell? ⟨gb193, 0, none⟩ = some (.int .i64 a5_0) := (blk_cell BK193.out 0).trans rfl; have hcz18_1 : w17.cell? ⟨gb193, 1, none⟩ = some (.slice A5_1 l5_1.length c5_1) := (blk_cell BK193.out 1).trans rfl; have hfz18_0 := blk_frozen BK193.out 0; have hfz18_1 := blk_frozen BK193.out 1; have p194 : 0 ≤ (a6 : Int) := of_decide_eq_true az_; have q194 : a6 < (l3.length : Int) := of_decide_eq_true az_; obtain ⟨ad194, e194, hx194_0⟩ := Kd.at_int HR3.out a6 p194 q194; cases e194; replace hx194_0 := (HB.out.cell (World.block_lt_of_cell? w _ hx194_0)).trans hx194_0; replace p194 := eq_true p194; replace q194 := eq_true q194) | (go_at_call 100; (with_reducible refine (spec_l4In.calls k _ _ l5_1 (rd l3 a6) t195 _ ?side1 ?side2 A16.out).mono ?_); (case side1 => exact cy_ HR5_1.out HB.out); (case side2 => exact HC5_1.out); rintro e w' ⟨rfl, ⟨nd, rfl⟩⟩; (try exact dw_))))
      go_ret
      exact ⟨rr_, bg_ GE193.out⟩
     ·rw [if_neg c15] at H
      exact absurd H (by simp)
    ·rw [if_neg c14] at H
     exact absurd H (by simp)
   ·rw [if_neg c13] at H
    have c13b0 := q3_ c13
    have c13b1 := q4_ c13
    obtain rfl := Option.some.inj H
    go_enter Try.func114, Try.ntmps114
    go_wp2_with (first | ((with_reducible refine gate_dst (N := 13) rfl ?_); refine box_event ?hg (N := 13) ?hd (cs := #[.int .i64 a5_0, .slice A5_1 l5_1.length c5_1]) (t := 49) ?hr ?_; (case hd => rfl); (case hg => rfl); (case hr => first | (go_simp; done) | (go_simp; rfl)); intro gb193 hg w19 hbox hb; have n0_ := Aside0.mk (below_step bz_ hb); have n1_ := Aside0.mk (hbox); have n2_ := Aside0.mk ((hz_ hg : w.heap.size ≤ gb193)); have n3_ := Aside0.mk ((hz_ hg : w.heap.size ≤ gb193)); clear HB; have HB := n0_; have BK193 := n1_; have GW193 := n2_; have GE193 := n3_; clear n0_ n1_ n2_ n3_; clear hb hbox hg; have hcz20_0 : w19.cell? ⟨gb193, 0, none⟩ = some (.int .i64 a5_0) := (blk_cell BK193.out 0).trans rfl; have hcz20_1 : w19.cell? ⟨gb193, 1, none⟩ = some (.slice A5_1 l5_1.length c5_1) := (blk_cell BK193.out 1).trans rfl; have hfz20_0 := blk_frozen BK193.out 0; have hfz20_1 := blk_frozen BK193.out 1))
    repeat (go_quiet (first | ((with_reducible refine gate_dst (N := 13) rfl ?_); refine box_event ?hg (N := 13) ?hd (cs := #[.int .i64 a5_0, .slice A5_1 l5_1.length c5_1]) (t := 49) ?hr ?_; (case hd => rfl); (case hg => rfl); (case hr => first | (go_simp; done) | (go_simp; rfl)); intro gb193 hg w19 hbox hb; have n0_ := Aside0.mk (below_step bz_ hb); have n1_ := Aside0.mk (hbox); have n2_ := Aside0.mk ((hz_ hg : w.heap.size ≤ gb193)); have n3_ := Aside0.mk ((hz_ hg : w.heap.size ≤ gb193)); clear HB; have HB := n0_; have BK193 := n1_; have GW193 := n2_; have GE193 := n3_; clear n0_ n1_ n2_ n3_; clear hb hbox hg; have hcz20_0 : w19.cell? ⟨gb193, 0, none⟩ = some (.int .i64 a5_0) := (blk_cell BK193.out 0).trans rfl; have hcz20_1 : w19.cell? ⟨gb193, 1, none⟩ = some (.slice A5_1 l5_1.length c5_1) := (blk_cell BK193.out 1).trans rfl; have hfz20_0 := blk_frozen BK193.out 0; have hfz20_1 := blk_frozen BK193.out 1)); try go_wp2_with (first | ((with_reducible refine gate_dst (N := 13) rfl ?_); refine box_event ?hg (N := 13) ?hd (cs := #[.int .i64 a5_0, .slice A5_1 l5_1.length c5_1]) (t := 49) ?hr ?_; (case hd => rfl); (case hg => rfl); (case hr => first | (go_simp; done) | (go_simp; rfl)); intro gb193 hg w19 hbox hb; have n0_ := Aside0.mk (below_step bz_ hb); have n1_ := Aside0.mk (hbox); have n2_ := Aside0.mk ((hz_ hg : w.heap.size ≤ gb193)); have n3_ := Aside0.mk ((hz_ hg : w.heap.size ≤ gb193)); clear HB; have HB := n0_; have BK193 := n1_; have GW193 := n2_; have GE193 := n3_; clear n0_ n1_ n2_ n3_; clear hb hbox hg; have hcz20_0 : w19.cell? ⟨gb193, 0, none⟩ = some (.int .i64 a5_0) := (blk_cell BK193.out 0).trans rfl; have hcz20_1 : w19.cell? ⟨gb193, 1, none⟩ = some (.slice A5_1 l5_1.length c5_1) := (blk_cell BK193.out 1).trans rfl; have hfz20_0 := blk_frozen BK193.out 0; have hfz20_1 := blk_frozen BK193.out 1)))
    go_ret
    exact ⟨rr_, bg_ GE193.out⟩
  ·rw [if_neg c12] at H
   have c12b0 := q3_ c12
   have c12b1 := q4_ c12
   by_cases c21 : a5_0 = 7
   ·rw [if_pos c21] at H
    have c21b0 := q1_ c21
    have c21b1 := q2_ c21
    clear c21
    obtain ⟨ji22, hji22⟩ : ∃ j_ : Int, (wrap64 (a4 - 1)) = j_ := ⟨_, rfl⟩
    replace H : (if 0 ≤ (ji22) then (if (ji22) < (l1.length : Int) then (if 0 ≤ (wrap64 ((wrap64 (a6 * (wrap64 ((l3.length : Int) + 1)))) + a7)) then (if (wrap64 ((wrap64 (a6 * (wrap64 ((l3.length : Int) + 1)))) + a7)) < ((rd_L6 l1 (ji22)).length : Int) then (some (!(rdOf false (rd_L6 l1 (ji22)) (wrap64 ((wrap64 (a6 * (wrap64 ((l3.length : Int) + 1)))) + a7))))) else (none)) else (none)) else (none)) else (none)) = some r := jz_ hji22 H
    have hji22w : (IntKind.i64.wrap (a4 - 1)) = ji22 := (i64_w _).trans hji22
    by_cases c23 : 0 ≤ (ji22)
    ·rw [if_pos c23] at H
     have c23b0 := decide_eq_true c23
     clear c23
     by_cases c24 : (ji22) < (l1.length : Int)
     ·rw [if_pos c24] at H
      have c24b0 := decide_eq_true c24
      clear c24
      obtain ⟨ji25, hji25⟩ : ∃ j_ : Int, (wrap64 ((wrap64 (a6 * (wrap64 ((l3.length : Int) + 1)))) + a7)) = j_ := ⟨_, rfl⟩
      replace H : (if 0 ≤ (ji25) then (if (ji25) < ((rd_L6 l1 (ji22)).length : Int) then (some (!(rdOf false (rd_L6 l1 (ji22)) (ji25)))) else (none)) else (none)) = some r := jz_ hji25 H
      have hji25w : (IntKind.i64.wrap ((wrap64 (a6 * (wrap64 ((l3.length : Int) + 1)))) + a7)) = ji25 := (i64_w _).trans hji25
      by_cases c26 : 0 ≤ (ji25)
      ·rw [if_pos c26] at H
       have c26b0 := decide_eq_true c26
       clear c26
       by_cases c27 : (ji25) < ((rd_L6 l1 (ji22)).length : Int)
       ·rw [if_pos c27] at H
        have c27b0 := decide_eq_true c27
        clear c27
        obtain rfl := Option.some.inj H
        go_enter Try.func114, Try.ntmps114
        go_wp2_with (first | ((with_reducible refine gate_dst (N := 13) rfl ?_); refine box_event ?hg (N := 13) ?hd (cs := #[.int .i64 a5_0, .slice A5_1 l5_1.length c5_1]) (t := 49) ?hr ?_; (case hd => rfl); (case hg => rfl); (case hr => first | (go_simp; done) | (go_simp; rfl)); intro gb193 hg w28 hbox hb; have n0_ := Aside0.mk (below_step bz_ hb); have n1_ := Aside0.mk (hbox); have n2_ := Aside0.mk ((hz_ hg : w.heap.size ≤ gb193)); have n3_ := Aside0.mk ((hz_ hg : w.heap.size ≤ gb193)); clear HB; have HB := n0_; have BK193 := n1_; have GW193 := n2_; have GE193 := n3_; clear n0_ n1_ n2_ n3_; clear hb hbox hg; have hcz29_0 : w28.cell? ⟨gb193, 0, none⟩ = some (.int .i64 a5_0) := (blk_cell BK193.out 0).trans rfl; have hcz29_1 : w28.cell? ⟨gb193, 1, none⟩ = some (.slice A5_1 l5_1.length c5_1) := (blk_cell BK193.out 1).trans rfl; have hfz29_0 := blk_frozen BK193.out 0; have hfz29_1 := blk_frozen BK193.out 1; have p196 : 0 ≤ ((ji22) : Int) := of_decide_eq_true az_; have q196 : (ji22) < (l1.length : Int) := of_decide_eq_true az_; obtain ⟨ad196, A196_0, c196_0, e196, hx196_0, hl196_0, hi196_0⟩ := at_L6 HR1.out (ji22) p196 q196; cases e196; replace hx196_0 := (HB.out.cell (World.block_lt_of_cell? w _ hx196_0)).trans hx196_0; have HR196_0 := Aside0.mk hi196_0; have HC196_0 := Aside0.mk hl196_0; clear hi196_0 hl196_0; replace p196 := eq_true p196; replace q196 := eq_true q196; have p197 : 0 ≤ ((ji25) : Int) := of_decide_eq_true az_; have q197 : (ji25) < ((rd_L6 l1 (ji22)).length : Int) := of_decide_eq_true az_; obtain ⟨ad197, e197, hx197_0⟩ := Kd.at_bool HR196_0.out (ji25) p197 q197; cases e197; replace hx197_0 := (HB.out.cell (World.block_lt_of_cell? w _ hx197_0)).trans hx197_0; replace p197 := eq_true p197; replace q197 := eq_true q197))
        repeat (go_quiet (first | ((with_reducible refine gate_dst (N := 13) rfl ?_); refine box_event ?hg (N := 13) ?hd (cs := #[.int .i64 a5_0, .slice A5_1 l5_1.length c5_1]) (t := 49) ?hr ?_; (case hd => rfl); (case hg => rfl); (case hr => first | (go_simp; done) | (go_simp; rfl)); intro gb193 hg w28 hbox hb; have n0_ := Aside0.mk (below_step bz_ hb); have n1_ := Aside0.mk (hbox); have n2_ := Aside0.mk ((hz_ hg : w.heap.size ≤ gb193)); have n3_ := Aside0.mk ((hz_ hg : w.heap.size ≤ gb193)); clear HB; have HB := n0_; have BK193 := n1_; have GW193 := n2_; have GE193 := n3_; clear n0_ n1_ n2_ n3_; clear hb hbox hg; have hcz29_0 : w28.cell? ⟨gb193, 0, none⟩ = some (.int .i64 a5_0) := (blk_cell BK193.out 0).trans rfl; have hcz29_1 : w28.cell? ⟨gb193, 1, none⟩ = some (.slice A5_1 l5_1.length c5_1) := (blk_cell BK193.out 1).trans rfl; have hfz29_0 := blk_frozen BK193.out 0; have hfz29_1 := blk_frozen BK193.out 1; have p196 : 0 ≤ ((ji22) : Int) := of_decide_eq_true az_; have q196 : (ji22) < (l1.length : Int) := of_decide_eq_true az_; obtain ⟨ad196, A196_0, c196_0, e196, hx196_0, hl196_0, hi196_0⟩ := at_L6 HR1.out (ji22) p196 q196; cases e196; replace hx196_0 := (HB.out.cell (World.block_lt_of_cell? w _ hx196_0)).trans hx196_0; have HR196_0 := Aside0.mk hi196_0; have HC196_0 := Aside0.mk hl196_0; clear hi196_0 hl196_0; replace p196 := eq_true p196; replace q196 := eq_true q196; have p197 : 0 ≤ ((ji25) : Int) := of_decide_eq_true az_; have q197 : (ji25) < ((rd_L6 l1 (ji22)).length : Int) := of_decide_eq_true az_; obtain ⟨ad197, e197, hx197_0⟩ := Kd.at_bool HR196_0.out (ji25) p197 q197; cases e197; replace hx197_0 := (HB.out.cell (World.block_lt_of_cell? w _ hx197_0)).trans hx197_0; replace p197 := eq_true p197; replace q197 := eq_true q197)); try go_wp2_with (first | ((with_reducible refine gate_dst (N := 13) rfl ?_); refine box_event ?hg (N := 13) ?hd (cs := #[.int .i64 a5_0, .slice A5_1 l5_1.length c5_1]) (t := 49) ?hr ?_; (case hd => rfl); (case hg => rfl); (case hr => first | (go_simp; done) | (go_simp; rfl)); intro gb193 hg w28 hbox hb; have n0_ := Aside0.mk (below_step bz_ hb); have n1_ := Aside0.mk (hbox); have n2_ := Aside0.mk ((hz_ hg : w.heap.size ≤ gb193)); have n3_ := Aside0.mk ((hz_ hg : w.heap.size ≤ gb193)); clear HB; have HB := n0_; have BK193 := n1_; have GW193 := n2_; have GE193 := n3_; clear n0_ n1_ n2_ n3_; clear hb hbox hg; have hcz29_0 : w28.cell? ⟨gb193, 0, none⟩ = some (.int .i64 a5_0) := (blk_cell BK193.out 0).trans rfl; have hcz29_1 : w28.cell? ⟨gb193, 1, none⟩ = some (.slice A5_1 l5_1.length c5_1) := (blk_cell BK193.out 1).trans rfl; have hfz29_0 := blk_frozen BK193.out 0; have hfz29_1 := blk_frozen BK193.out 1; have p196 : 0 ≤ ((ji22) : Int) := of_decide_eq_true az_; have q196 : (ji22) < (l1.length : Int) := of_decide_eq_true az_; obtain ⟨ad196, A196_0, c196_0, e196, hx196_0, hl196_0, hi196_0⟩ := at_L6 HR1.out (ji22) p196 q196; cases e196; replace hx196_0 := (HB.out.cell (World.block_lt_of_cell? w _ hx196_0)).trans hx196_0; have HR196_0 := Aside0.mk hi196_0; have HC196_0 := Aside0.mk hl196_0; clear hi196_0 hl196_0; replace p196 := eq_true p196; replace q196 := eq_true q196; have p197 : 0 ≤ ((ji25) : Int) := of_decide_eq_true az_; have q197 : (ji25) < ((rd_L6 l1 (ji22)).length : Int) := of_decide_eq_true az_; obtain ⟨ad197, e197, hx197_0⟩ := Kd.at_bool HR196_0.out (ji25) p197 q197; cases e197; replace hx197_0 := (HB.out.cell (World.block_lt_of_cell? w _ hx197_0)).trans hx197_0; replace p197 := eq_true p197; replace q197 := eq_true q197)))
        go_ret
        exact ⟨by first | rfl | (simp [errW_none, errW_some] <;> rfl) | (simp only [← hji22, ← hji25]; first | rfl | (simp [errW_none, errW_some] <;> rfl)) | (simp [*, errW_none, errW_some] <;> rfl), bg_ GE193.out⟩
       ·rw [if_neg c27] at H
        exact absurd H (by simp)
      ·rw [if_neg c26] at H
       exact absurd H (by simp)
     ·rw [if_neg c24] at H
      exact absurd H (by simp)
    ·rw [if_neg c23] at H
     exact absurd H (by simp)
   ·rw [if_neg c21] at H
    have c21b0 := q3_ c21
    have c21b1 := q4_ c21
    by_cases c30 : a5_0 = 6
    ·rw [if_pos c30] at H
     have c30b0 := q1_ c30
     have c30b1 := q2_ c30
     clear c30
     by_cases c31 : a6 = a7
     ·rw [if_pos c31] at H
      have c31b0 := q1_ c31
      have c31b1 := q2_ c31
      clear c31
      obtain rfl := Option.some.inj H
      go_enter Try.func114, Try.ntmps114
      go_wp2_with (first | ((with_reducible refine gate_dst (N := 13) rfl ?_); refine box_event ?hg (N := 13) ?hd (cs := #[.int .i64 a5_0, .slice A5_1 l5_1.length c5_1]) (t := 49) ?hr ?_; (case hd => rfl); (case hg => rfl); (case hr => first | (go_simp; done) | (go_simp; rfl)); intro gb193 hg w32 hbox hb; have n0_ := Aside0.mk (below_step bz_ hb); have n1_ := Aside0.mk (hbox); have n2_ := Aside0.mk ((hz_ hg : w.heap.size ≤ gb193)); have n3_ := Aside0.mk ((hz_ hg : w.heap.size ≤ gb193)); clear HB; have HB := n0_; have BK193 := n1_; have GW193 := n2_; have GE193 := n3_; clear n0_ n1_ n2_ n3_; clear hb hbox hg; have hcz33_0 : w32.cell? ⟨gb193, 0, none⟩ = some (.int .i64 a5_0) := (blk_cell BK193.out 0).trans rfl; have hcz33_1 : w32.cell? ⟨gb193, 1, none⟩ = some (.slice A5_1 l5_1.length c5_1) := (blk_cell BK193.out 1).trans rfl; have hfz33_0 := blk_frozen BK193.out 0; have hfz33_1 := blk_frozen BK193.out 1))
      repeat (go_quiet (first | ((with_reducible refine gate_dst (N := 13) rfl ?_); refine box_event ?hg (N := 13) ?hd (cs := #[.int .i64 a5_0, .slice A5_1 l5_1.length c5_1]) (t := 49) ?hr ?_; (case hd => rfl); (case hg => rfl); (case hr => first | (go_simp; done) | (go_simp; rfl)); intro gb193 hg w32 hbox hb; have n0_ := Aside0.mk (below_step bz_ hb); have n1_ := Aside0.mk (hbox); have n2_ := Aside0.mk ((hz_ hg : w.heap.size ≤ gb193)); have n3_ := Aside0.mk ((hz_ hg : w.heap.size ≤ gb193)); clear HB; have HB := n0_; have BK193 := n1_; have GW193 := n2_; have GE193 := n3_; clear n0_ n1_ n2_ n3_; clear hb hbox hg; have hcz33_0 : w32.cell? ⟨gb193, 0, none⟩ = some (.int .i64 a5_0) := (blk_cell BK193.out 0).trans rfl; have hcz33_1 : w32.cell? ⟨gb193, 1, none⟩ = some (.slice A5_1 l5_1.length c5_1) := (blk_cell BK193.out 1).trans rfl; have hfz33_0 := blk_frozen BK193.out 0; have hfz33_1 := blk_frozen BK193.out 1)); try go_wp2_with (first | ((with_reducible refine gate_dst (N := 13) rfl ?_); refine box_event ?hg (N := 13) ?hd (cs := #[.int .i64 a5_0, .slice A5_1 l5_1.length c5_1]) (t := 49) ?hr ?_; (case hd => rfl); (case hg => rfl); (case hr => first | (go_simp; done) | (go_simp; rfl)); intro gb193 hg w32 hbox hb; have n0_ := Aside0.mk (below_step bz_ hb); have n1_ := Aside0.mk (hbox); have n2_ := Aside0.mk ((hz_ hg : w.heap.size ≤ gb193)); have n3_ := Aside0.mk ((hz_ hg : w.heap.size ≤ gb193)); clear HB; have HB := n0_; have BK193 := n1_; have GW193 := n2_; have GE193 := n3_; clear n0_ n1_ n2_ n3_; clear hb hbox hg; have hcz33_0 : w32.cell? ⟨gb193, 0, none⟩ = some (.int .i64 a5_0) := (blk_cell BK193.out 0).trans rfl; have hcz33_1 : w32.cell? ⟨gb193, 1, none⟩ = some (.slice A5_1 l5_1.length c5_1) := (blk_cell BK193.out 1).trans rfl; have hfz33_0 := blk_frozen BK193.out 0; have hfz33_1 := blk_frozen BK193.out 1)))
      go_ret
      exact ⟨rr_, bg_ GE193.out⟩
     ·rw [if_neg c31] at H
      have c31b0 := q3_ c31
      have c31b1 := q4_ c31
      have H' := Aside0.mk H
      clear H
      go_enter Try.func114, Try.ntmps114
      go_wp2_with (first | ((with_reducible refine gate_dst (N := 13) rfl ?_); refine box_event ?hg (N := 13) ?hd (cs := #[.int .i64 a5_0, .slice A5_1 l5_1.length c5_1]) (t := 49) ?hr ?_; (case hd => rfl); (case hg => rfl); (case hr => first | (go_simp; done) | (go_simp; rfl)); intro gb193 hg w34 hbox hb; have n0_ := Aside0.mk (below_step bz_ hb); have n1_ := Aside0.mk (hbox); have n2_ := Aside0.mk ((hz_ hg : w.heap.size ≤ gb193)); have n3_ := Aside0.mk ((hz_ hg : w.heap.size ≤ gb193)); clear HB; have HB := n0_; have BK193 := n1_; have GW193 := n2_; have GE193 := n3_; clear n0_ n1_ n2_ n3_; clear hb hbox hg; have hcz35_0 : w34.cell? ⟨gb193, 0, none⟩ = some (.int .i64 a5_0) := (blk_cell BK193.out 0).trans rfl; have hcz35_1 : w34.cell? ⟨gb193, 1, none⟩ = some (.slice A5_1 l5_1.length c5_1) := (blk_cell BK193.out 1).trans rfl; have hfz35_0 := blk_frozen BK193.out 0; have hfz35_1 := blk_frozen BK193.out 1))
      repeat (go_quiet (first | ((with_reducible refine gate_dst (N := 13) rfl ?_); refine box_event ?hg (N := 13) ?hd (cs := #[.int .i64 a5_0, .slice A5_1 l5_1.length c5_1]) (t := 49) ?hr ?_; (case hd => rfl); (case hg => rfl); (case hr => first | (go_simp; done) | (go_simp; rfl)); intro gb193 hg w34 hbox hb; have n0_ := Aside0.mk (below_step bz_ hb); have n1_ := Aside0.mk (hbox); have n2_ := Aside0.mk ((hz_ hg : w.heap.size ≤ gb193)); have n3_ := Aside0.mk ((hz_ hg : w.heap.size ≤ gb193)); clear HB; have HB := n0_; have BK193 := n1_; have GW193 := n2_; have GE193 := n3_; clear n0_ n1_ n2_ n3_; clear hb hbox hg; have hcz35_0 : w34.cell? ⟨gb193, 0, none⟩ = some (.int .i64 a5_0) := (blk_cell BK193.out 0).trans rfl; have hcz35_1 : w34.cell? ⟨gb193, 1, none⟩ = some (.slice A5_1 l5_1.length c5_1) := (blk_cell BK193.out 1).trans rfl; have hfz35_0 := blk_frozen BK193.out 0; have hfz35_1 := blk_frozen BK193.out 1)); try go_wp2_with (first | ((with_reducible refine gate_dst (N := 13) rfl ?_); refine box_event ?hg (N := 13) ?hd (cs := #[.int .i64 a5_0, .slice A5_1 l5_1.length c5_1]) (t := 49) ?hr ?_; (case hd => rfl); (case hg => rfl); (case hr => first | (go_simp; done) | (go_simp; rfl)); intro gb193 hg w34 hbox hb; have n0_ := Aside0.mk (below_step bz_ hb); have n1_ := Aside0.mk (hbox); have n2_ := Aside0.mk ((hz_ hg : w.heap.size ≤ gb193)); have n3_ := Aside0.mk ((hz_ hg : w.heap.size ≤ gb193)); clear HB; have HB := n0_; have BK193 := n1_; have GW193 := n2_; have GE193 := n3_; clear n0_ n1_ n2_ n3_; clear hb hbox hg; have hcz35_0 : w34.cell? ⟨gb193, 0, none⟩ = some (.int .i64 a5_0) := (blk_cell BK193.out 0).trans rfl; have hcz35_1 : w34.cell? ⟨gb193, 1, none⟩ = some (.slice A5_1 l5_1.length c5_1) := (blk_cell BK193.out 1).trans rfl; have hfz35_0 := blk_frozen BK193.out 0; have hfz35_1 := blk_frozen BK193.out 1)))
      go_loopg [18] k (fun kq v18 w' => ∃ (x18_1 : Int), v18 = .int .i64 x18_1 ∧ Aside0 (spec_l5Cell.l0 kq l1 l2 a4 a6 a7 (wrap64 ((l3.length : Int) + 1)) x18_1 = some r) ∧ Aside0 (kq ≤ k) ∧ Aside0 (w'.heap[gb193]? = some (.cells #[.int .i64 a5_0, (.slice A5_1 l5_1.length c5_1)] 49 (0, 0))) ∧ Aside0 (Below w.heap.size w w'))
      case atStart => exact ⟨(wrap64 (a6 + 1)), rs_, H', ⟨Nat.le_refl _⟩, ⟨by (with_reducible repeat (first | refine blk_drewN ?_ _ | refine blk_drew ?_ | refine blk_alloc ?_ _)); exact BK193.out⟩, ⟨bg_ GE193.out⟩⟩
      case round =>
       clear H'
       try clear c1
       try clear p1
       try clear q1
       try clear hx1
       try clear c2
       try clear p2
       try clear c3
       try clear c5
       try clear p6
       try clear c9
       try clear c9b0
       try clear c9b1
       try clear c11
       try clear c12
       try clear c12b0
       try clear c12b1
       try clear c13
       try clear c13b0
       try clear c13b1
       try clear c14
       try clear c14b0
       try clear c15
       try clear c15b0
       try clear c19
       try clear p19
       try clear q19
       try clear hx19
       try clear c21
       try clear c21b0
       try clear c21b1
       try clear c23
       try clear c23b0
       try clear c24
       try clear c24b0
       try clear c26
       try clear c26b0
       try clear c27
       try clear c27b0
       try clear c30
       try clear c30b0
       try clear c30b1
       try clear c31
       try clear c31b0
       try clear c31b1
       try clear hcz11_0
       try clear hcz11_1
       try clear hcz18_0
       try clear hcz18_1
       try clear hcz20_0
       try clear hcz20_1
       try clear hcz29_0
       try clear hcz29_1
       try clear hcz33_0
       try clear hcz33_1
       try clear hcz35_0
       try clear hcz35_1
       try clear hfz11_0
       try clear hfz11_1
       try clear hfz18_0
       try clear hfz18_1
       try clear hfz20_0
       try clear hfz20_1
       try clear hfz29_0
       try clear hfz29_1
       try clear hfz33_0
       try clear hfz33_1
       try clear hfz35_0
       try clear hfz35_1
       try clear hx194_0
       try clear hx196_0
       try clear hx197_0
       try clear p194
       try clear p196
       try clear p197
       try clear q194
       try clear q196
       try clear q197
       obtain ⟨x18_1, rfl, HA, HK1, BK193, HB⟩ := hrel
       cases gk with
       | zero => exact absurd HA.out (by simp [spec_l5Cell.l0])
       | succ k1 =>
        have H := HA.out
        clear HA
        simp only [spec_l5Cell.l0] at H
        by_cases c36 : x18_1 ≤ a7
        ·rw [if_pos c36] at H
         have c36b0 := decide_eq_true c36
         clear c36
         obtain ⟨ji37, hji37⟩ : ∃ j_ : Int, (wrap64 (a4 - 1)) = j_ := ⟨_, rfl⟩
         replace H : (if 0 ≤ (ji37) then (if (ji37) < (l1.length : Int) then (if 0 ≤ (wrap64 ((wrap64 (a6 * (wrap64 ((l3.length : Int) + 1)))) + x18_1)) then (if (wrap64 ((wrap64 (a6 * (wrap64 ((l3.length : Int) + 1)))) + x18_1)) < ((rd_L6 l1 (ji37)).length : Int) then (if rdOf false (rd_L6 l1 (ji37)) (wrap64 ((wrap64 (a6 * (wrap64 ((l3.length : Int) + 1)))) + x18_1)) = true then (if x18_1 = a7 then (some true) else (if 0 ≤ (wrap64 ((wrap64 (x18_1 * (wrap64 ((l3.length : Int) + 1)))) + a7)) then (if (wrap64 ((wrap64 (x18_1 * (wrap64 ((l3.length : Int) + 1)))) + a7)) < (l2.length : Int) then (if rdOf false l2 (wrap64 ((wrap64 (x18_1 * (wrap64 ((l3.length : Int) + 1)))) + a7)) = true then (some true) else (spec_l5Cell.l0 k1 l1 l2 a4 a6 a7 (wrap64 ((l3.length : Int) + 1)) (wrap64 (x18_1 + 1)))) else (none)) else (none))) else (spec_l5Cell.l0 k1 l1 l2 a4 a6 a7 (wrap64 ((l3.length : Int) + 1)) (wrap64 (x18_1 + 1)))) else (none)) else (none)) else (none)) else (none)) = some r := jz_ hji37 H
         have hji37w : (IntKind.i64.wrap (a4 - 1)) = ji37 := (i64_w _).trans hji37
         by_cases c38 : 0 ≤ (ji37)
         ·rw [if_pos c38] at H
          have c38b0 := decide_eq_true c38
          clear c38
          by_cases c39 : (ji37) < (l1.length : Int)
          ·rw [if_pos c39] at H
           have c39b0 := decide_eq_true c39
           clear c39
           obtain ⟨ji40, hji40⟩ : ∃ j_ : Int, (wrap64 ((wrap64 (a6 * (wrap64 ((l3.length : Int) + 1)))) + x18_1)) = j_ := ⟨_, rfl⟩
           replace H : (if 0 ≤ (ji40) then (if (ji40) < ((rd_L6 l1 (ji37)).length : Int) then (if rdOf false (rd_L6 l1 (ji37)) (ji40) = true then (if x18_1 = a7 then (some true) else (if 0 ≤ (wrap64 ((wrap64 (x18_1 * (wrap64 ((l3.length : Int) + 1)))) + a7)) then (if (wrap64 ((wrap64 (x18_1 * (wrap64 ((l3.length : Int) + 1)))) + a7)) < (l2.length : Int) then (if rdOf false l2 (wrap64 ((wrap64 (x18_1 * (wrap64 ((l3.length : Int) + 1)))) + a7)) = true then (some true) else (spec_l5Cell.l0 k1 l1 l2 a4 a6 a7 (wrap64 ((l3.length : Int) + 1)) (wrap64 (x18_1 + 1)))) else (none)) else (none))) else (spec_l5Cell.l0 k1 l1 l2 a4 a6 a7 (wrap64 ((l3.length : Int) + 1)) (wrap64 (x18_1 + 1)))) else (none)) else (none)) = some r := jz_ hji40 H
           have hji40w : (IntKind.i64.wrap ((wrap64 (a6 * (wrap64 ((l3.length : Int) + 1)))) + x18_1)) = ji40 := (i64_w _).trans hji40
           by_cases c41 : 0 ≤ (ji40)
           ·rw [if_pos c41] at H
            have c41b0 := decide_eq_true c41
            clear c41
            by_cases c42 : (ji40) < ((rd_L6 l1 (ji37)).length : Int)
            ·rw [if_pos c42] at H
             have c42b0 := decide_eq_true c42
             clear c42
             obtain ⟨bq43, hbq43⟩ : ∃ b_ : Bool, b_ = (rdOf false (rd_L6 l1 (ji37)) (ji40)) := ⟨_, rfl⟩
             replace H : (if bq43 = true then (if x18_1 = a7 then (some true) else (if 0 ≤ (wrap64 ((wrap64 (x18_1 * (wrap64 ((l3.length : Int) + 1)))) + a7)) then (if (wrap64 ((wrap64 (x18_1 * (wrap64 ((l3.length : Int) + 1)))) + a7)) < (l2.length : Int) then (if rdOf false l2 (wrap64 ((wrap64 (x18_1 * (wrap64 ((l3.length : Int) + 1)))) + a7)) = true then (some true) else (spec_l5Cell.l0 k1 l1 l2 a4 a6 a7 (wrap64 ((l3.length : Int) + 1)) (wrap64 (x18_1 + 1)))) else (none)) else (none))) else (spec_l5Cell.l0 k1 l1 l2 a4 a6 a7 (wrap64 ((l3.length : Int) + 1)) (wrap64 (x18_1 + 1)))) = some r := by rw [← hbq43] at H; exact H
             have Nbq43 := Aside0.mk hbq43
             clear hbq43
             by_cases c44 : bq43 = true
             ·subst c44
              have H1 := H
              rw [if_pos rfl] at H1
              clear H
              have H := H1
              clear H1
              by_cases c45 : x18_1 = a7
              ·rw [if_pos c45] at H
               have c45b0 := q1_ c45
               have c45b1 := q2_ c45
               clear c45
               obtain rfl := Option.some.inj H
               have p198 : 0 ≤ ((ji37) : Int) := of_decide_eq_true az_
               have q198 : (ji37) < (l1.length : Int) := of_decide_eq_true az_
               obtain ⟨ad198, A198_0, c198_0, e198, hx198_0, hl198_0, hi198_0⟩ := at_L6 HR1.out (ji37) p198 q198
               cases e198
               replace hx198_0 := (HB.out.cell (World.block_lt_of_cell? w _ hx198_0)).trans hx198_0
               have HR198_0 := Aside0.mk hi198_0
               have HC198_0 := Aside0.mk hl198_0
               clear hi198_0 hl198_0
               replace p198 := eq_true p198
               replace q198 := eq_true q198
               have p199 : 0 ≤ ((ji40) : Int) := of_decide_eq_true az_
               have q199 : (ji40) < ((rd_L6 l1 (ji37)).length : Int) := of_decide_eq_true az_
               obtain ⟨ad199, e199, hx199_0⟩ := Kd.at_bool HR198_0.out (ji40) p199 q199
               (try rw [← Nbq43.out] at hx199_0)
               cases e199
               replace hx199_0 := (HB.out.cell (World.block_lt_of_cell? w _ hx199_0)).trans hx199_0
               replace p199 := eq_true p199
               replace q199 := eq_true q199
               go_wp2
               repeat (go_quiet (fail); try go_wp2)
               go_ret
               exact ⟨by first | rfl | (simp [errW_none, errW_some] <;> rfl) | (simp only [← hji37, ← hji40]; first | rfl | (simp [errW_none, errW_some] <;> rfl)) | (simp [*, errW_none, errW_some] <;> rfl), bg_ GE193.out⟩
              ·rw [if_neg c45] at H
               have c45b0 := q3_ c45
               have c45b1 := q4_ c45
               obtain ⟨ji46, hji46⟩ : ∃ j_ : Int, (wrap64 ((wrap64 (x18_1 * (wrap64 ((l3.length : Int) + 1)))) + a7)) = j_ := ⟨_, rfl⟩
               replace H : (if 0 ≤ (ji46) then (if (ji46) < (l2.length : Int) then (if rdOf false l2 (ji46) = true then (some true) else (spec_l5Cell.l0 k1 l1 l2 a4 a6 a7 (wrap64 ((l3.length : Int) + 1)) (wrap64 (x18_1 + 1)))) else (none)) else (none)) = some r := jz_ hji46 H
               have hji46w : (IntKind.i64.wrap ((wrap64 (x18_1 * (wrap64 ((l3.length : Int) + 1)))) + a7)) = ji46 := (i64_w _).trans hji46
               by_cases c47 : 0 ≤ (ji46)
               ·rw [if_pos c47] at H
                have c47b0 := decide_eq_true c47
                clear c47
                by_cases c48 : (ji46) < (l2.length : Int)
                ·rw [if_pos c48] at H
                 have c48b0 := decide_eq_true c48
                 clear c48
                 obtain ⟨bq49, hbq49⟩ : ∃ b_ : Bool, b_ = (rdOf false l2 (ji46)) := ⟨_, rfl⟩
                 replace H : (if bq49 = true then (some true) else (spec_l5Cell.l0 k1 l1 l2 a4 a6 a7 (wrap64 ((l3.length : Int) + 1)) (wrap64 (x18_1 + 1)))) = some r := by rw [← hbq49] at H; exact H
                 have Nbq49 := Aside0.mk hbq49
                 clear hbq49
                 by_cases c50 : bq49 = true
                 ·subst c50
                  have H1 := H
                  rw [if_pos rfl] at H1
                  clear H
                  have H := H1
                  clear H1
                  obtain rfl := Option.some.inj H
                  have p198 : 0 ≤ ((ji37) : Int) := of_decide_eq_true az_
                  have q198 : (ji37) < (l1.length : Int) := of_decide_eq_true az_
                  obtain ⟨ad198, A198_0, c198_0, e198, hx198_0, hl198_0, hi198_0⟩ := at_L6 HR1.out (ji37) p198 q198
                  cases e198
                  replace hx198_0 := (HB.out.cell (World.block_lt_of_cell? w _ hx198_0)).trans hx198_0
                  have HR198_0 := Aside0.mk hi198_0
                  have HC198_0 := Aside0.mk hl198_0
                  clear hi198_0 hl198_0
                  replace p198 := eq_true p198
                  replace q198 := eq_true q198
                  have p199 : 0 ≤ ((ji40) : Int) := of_decide_eq_true az_
                  have q199 : (ji40) < ((rd_L6 l1 (ji37)).length : Int) := of_decide_eq_true az_
                  obtain ⟨ad199, e199, hx199_0⟩ := Kd.at_bool HR198_0.out (ji40) p199 q199
                  (try rw [← Nbq43.out] at hx199_0)
                  (try rw [← Nbq49.out] at hx199_0)
                  cases e199
                  replace hx199_0 := (HB.out.cell (World.block_lt_of_cell? w _ hx199_0)).trans hx199_0
                  replace p199 := eq_true p199
                  replace q199 := eq_true q199
                  have p200 : 0 ≤ ((ji46) : Int) := of_decide_eq_true az_
                  have q200 : (ji46) < (l2.length : Int) := of_decide_eq_true az_
                  obtain ⟨ad200, e200, hx200_0⟩ := Kd.at_bool HR2.out (ji46) p200 q200
                  (try rw [← Nbq43.out] at hx200_0)
                  (try rw [← Nbq49.out] at hx200_0)
                  cases e200
                  replace hx200_0 := (HB.out.cell (World.block_lt_of_cell? w _ hx200_0)).trans hx200_0
                  replace p200 := eq_true p200
                  replace q200 := eq_true q200
                  go_wp2
                  repeat (go_quiet (fail); try go_wp2)
                  go_ret
                  exact ⟨by first | rfl | (simp [errW_none, errW_some] <;> rfl) | (simp only [← hji37, ← hji40, ← hji46]; first | rfl | (simp [errW_none, errW_some] <;> rfl)) | (simp [*, errW_none, errW_some] <;> rfl), bg_ GE193.out⟩
                 ·replace c50 := Bool.eq_false_iff.mpr c50
                  subst c50
                  have H1 := H
                  rw [if_neg (show ¬ (false = true) by decide)] at H1
                  clear H
                  have H := H1
                  clear H1
                  have H' := Aside0.mk H
                  clear H
                  have p198 : 0 ≤ ((ji37) : Int) := of_decide_eq_true az_
                  have q198 : (ji37) < (l1.length : Int) := of_decide_eq_true az_
                  obtain ⟨ad198, A198_0, c198_0, e198, hx198_0, hl198_0, hi198_0⟩ := at_L6 HR1.out (ji37) p198 q198
                  cases e198
                  replace hx198_0 := (HB.out.cell (World.block_lt_of_cell? w _ hx198_0)).trans hx198_0
                  have HR198_0 := Aside0.mk hi198_0
                  have HC198_0 := Aside0.mk hl198_0
                  clear hi198_0 hl198_0
                  replace p198 := eq_true p198
                  replace q198 := eq_true q198
                  have p199 : 0 ≤ ((ji40) : Int) := of_decide_eq_true az_
                  have q199 : (ji40) < ((rd_L6 l1 (ji37)).length : Int) := of_decide_eq_true az_
                  obtain ⟨ad199, e199, hx199_0⟩ := Kd.at_bool HR198_0.out (ji40) p199 q199
                  (try rw [← Nbq43.out] at hx199_0)
                  (try rw [← Nbq49.out] at hx199_0)
                  cases e199
                  replace hx199_0 := (HB.out.cell (World.block_lt_of_cell? w _ hx199_0)).trans hx199_0
                  replace p199 := eq_true p199
                  replace q199 := eq_true q199
                  have p200 : 0 ≤ ((ji46) : Int) := of_decide_eq_true az_
                  have q200 : (ji46) < (l2.length : Int) := of_decide_eq_true az_
                  obtain ⟨ad200, e200, hx200_0⟩ := Kd.at_bool HR2.out (ji46) p200 q200
                  (try rw [← Nbq43.out] at hx200_0)
                  (try rw [← Nbq49.out] at hx200_0)
                  cases e200
                  replace hx200_0 := (HB.out.cell (World.block_lt_of_cell? w _ hx200_0)).trans hx200_0
                  replace p200 := eq_true p200
                  replace q200 := eq_true q200
                  go_wp2
                  repeat (go_quiet (fail); try go_wp2)
                  go_roundg k1
                  case measure => have := HK1.out; omega
                  case rel => exact ⟨(wrap64 (x18_1 + 1)), rs_, H', ⟨by have := HK1.out; omega⟩, ⟨by (with_reducible repeat (first | refine blk_drewN ?_ _ | refine blk_drew ?_ | refine blk_alloc ?_ _)); exact BK193.out⟩, ⟨bg_ GE193.out⟩⟩
                ·rw [if_neg c48] at H
                 exact absurd H (by simp)
               ·rw [if_neg c47] at H
                exact absurd H (by simp)
             ·replace c44 := Bool.eq_false_iff.mpr c44
              subst c44
              have H1 := H
              rw [if_neg (show ¬ (false = true) by decide)] at H1
              clear H
              have H := H1
              clear H1
              have H' := Aside0.mk H
              clear H
              have p198 : 0 ≤ ((ji37) : Int) := of_decide_eq_true az_
              have q198 : (ji37) < (l1.length : Int) := of_decide_eq_true az_
              obtain ⟨ad198, A198_0, c198_0, e198, hx198_0, hl198_0, hi198_0⟩ := at_L6 HR1.out (ji37) p198 q198
              cases e198
              replace hx198_0 := (HB.out.cell (World.block_lt_of_cell? w _ hx198_0)).trans hx198_0
              have HR198_0 := Aside0.mk hi198_0
              have HC198_0 := Aside0.mk hl198_0
              clear hi198_0 hl198_0
              replace p198 := eq_true p198
              replace q198 := eq_true q198
              have p199 : 0 ≤ ((ji40) : Int) := of_decide_eq_true az_
              have q199 : (ji40) < ((rd_L6 l1 (ji37)).length : Int) := of_decide_eq_true az_
              obtain ⟨ad199, e199, hx199_0⟩ := Kd.at_bool HR198_0.out (ji40) p199 q199
              (try rw [← Nbq43.out] at hx199_0)
              cases e199
              replace hx199_0 := (HB.out.cell (World.block_lt_of_cell? w _ hx199_0)).trans hx199_0
              replace p199 := eq_true p199
              replace q199 := eq_true q199
              go_wp2
              repeat (go_quiet (fail); try go_wp2)
              go_roundg k1
              case measure => have := HK1.out; omega
              case rel => exact ⟨(wrap64 (x18_1 + 1)), rs_, H', ⟨by have := HK1.out; omega⟩, ⟨by (with_reducible repeat (first | refine blk_drewN ?_ _ | refine blk_drew ?_ | refine blk_alloc ?_ _)); exact BK193.out⟩, ⟨bg_ GE193.out⟩⟩
            ·rw [if_neg c42] at H
             exact absurd H (by simp)
           ·rw [if_neg c41] at H
            exact absurd H (by simp)
          ·rw [if_neg c39] at H
           exact absurd H (by simp)
         ·rw [if_neg c38] at H
          exact absurd H (by simp)
        ·rw [if_neg c36] at H
         have c36b0 := decide_eq_false c36
         clear c36
         obtain rfl := Option.some.inj H
         go_wp2
         repeat (go_quiet (fail); try go_wp2)
         go_ret
         exact ⟨rr_, bg_ GE193.out⟩
    ·rw [if_neg c30] at H
     have c30b0 := q3_ c30
     have c30b1 := q4_ c30
     replace H := Option.bind_eq_some_iff.mp H
     obtain ⟨t201, A510, H⟩ := H
     try dsimp only at H
     have A51 := Aside0.mk A510
     clear A510
     by_cases c52 : 0 ≤ t201
     ·rw [if_pos c52] at H
      have c52b0 := decide_eq_true c52
      clear c52
      by_cases c53 : t201 < (l1.length : Int)
      ·rw [if_pos c53] at H
       have c53b0 := decide_eq_true c53
       clear c53
       obtain ⟨ji54, hji54⟩ : ∃ j_ : Int, (wrap64 (a4 - 1)) = j_ := ⟨_, rfl⟩
       replace H : (if 0 ≤ (ji54) then (if (ji54) < (l1.length : Int) then (if a5_0 = 4 then (if 0 ≤ (wrap64 ((wrap64 (a6 * (wrap64 ((l3.length : Int) + 1)))) + a7)) then (if (wrap64 ((wrap64 (a6 * (wrap64 ((l3.length : Int) + 1)))) + a7)) < ((rd_L6 l1 t201).length : Int) then (if rdOf false (rd_L6 l1 t201) (wrap64 ((wrap64 (a6 * (wrap64 ((l3.length : Int) + 1)))) + a7)) = true then (some true) else (if (wrap64 ((wrap64 (a6 * (wrap64 ((l3.length : Int) + 1)))) + a7)) < ((rd_L6 l1 (ji54)).length : Int) then (some (rdOf false (rd_L6 l1 (ji54)) (wrap64 ((wrap64 (a6 * (wrap64 ((l3.length : Int) + 1)))) + a7)))) else (none))) else (none)) else (none)) else (if a5_0 = 5 then (if 0 ≤ (wrap64 ((wrap64 (a6 * (wrap64 ((l3.length : Int) + 1)))) + a7)) then (if (wrap64 ((wrap64 (a6 * (wrap64 ((l3.length : Int) + 1)))) + a7)) < ((rd_L6 l1 t201).length : Int) then (if rdOf false (rd_L6 l1 t201) (wrap64 ((wrap64 (a6 * (wrap64 ((l3.length : Int) + 1)))) + a7)) = true then (if (wrap64 ((wrap64 (a6 * (wrap64 ((l3.length : Int) + 1)))) + a7)) < ((rd_L6 l1 (ji54)).length : Int) then (some (rdOf false (rd_L6 l1 (ji54)) (wrap64 ((wrap64 (a6 * (wrap64 ((l3.length : Int) + 1)))) + a7)))) else (none)) else (some false)) else (none)) else (none)) else (spec_l5Cell.l1 k a6 a7 (wrap64 ((l3.length : Int) + 1)) (rd_L6 l1 t201) (rd_L6 l1 (ji54)) a6))) else (none)) else (none)) = some r := jz_ hji54 H
       (try rw [hji54] at A51)
       have hji54w : (IntKind.i64.wrap (a4 - 1)) = ji54 := (i64_w _).trans hji54
       by_cases c55 : 0 ≤ (ji54)
       ·rw [if_pos c55] at H
        have c55b0 := decide_eq_true c55
        clear c55
        by_cases c56 : (ji54) < (l1.length : Int)
        ·rw [if_pos c56] at H
         have c56b0 := decide_eq_true c56
         clear c56
         by_cases c57 : a5_0 = 4
         ·rw [if_pos c57] at H
          have c57b0 := q1_ c57
          have c57b1 := q2_ c57
          clear c57
          obtain ⟨ji58, hji58⟩ : ∃ j_ : Int, (wrap64 ((wrap64 (a6 * (wrap64 ((l3.length : Int) + 1)))) + a7)) = j_ := ⟨_, rfl⟩
          replace H : (if 0 ≤ (ji58) then (if (ji58) < ((rd_L6 l1 t201).length : Int) then (if rdOf false (rd_L6 l1 t201) (ji58) = true then (some true) else (if (ji58) < ((rd_L6 l1 (ji54)).length : Int) then (some (rdOf false (rd_L6 l1 (ji54)) (ji58))) else (none))) else (none)) else (none)) = some r := jz_ hji58 H
          (try rw [hji58] at A51)
          have hji58w : (IntKind.i64.wrap ((wrap64 (a6 * (wrap64 ((l3.length : Int) + 1)))) + a7)) = ji58 := (i64_w _).trans hji58
          by_cases c59 : 0 ≤ (ji58)
          ·rw [if_pos c59] at H
           have c59b0 := decide_eq_true c59
           clear c59
           by_cases c60 : (ji58) < ((rd_L6 l1 t201).length : Int)
           ·rw [if_pos c60] at H
            have c60b0 := decide_eq_true c60
            clear c60
            obtain ⟨bq61, hbq61⟩ : ∃ b_ : Bool, b_ = (rdOf false (rd_L6 l1 t201) (ji58)) := ⟨_, rfl⟩
            replace H : (if bq61 = true then (some true) else (if (ji58) < ((rd_L6 l1 (ji54)).length : Int) then (some (rdOf false (rd_L6 l1 (ji54)) (ji58))) else (none))) = some r := by rw [← hbq61] at H; exact H
            have Nbq61 := Aside0.mk hbq61
            clear hbq61
            by_cases c62 : bq61 = true
            ·subst c62
             have H1 := H
             rw [if_pos rfl] at H1
             clear H
             have H := H1
             clear H1
             obtain rfl := Option.some.inj H
             go_enter Try.func114, Try.ntmps114
             go_wp2_with (first | ((with_reducible refine gate_dst (N := 13) rfl ?_); refine box_event ?hg (N := 13) ?hd (cs := #[.int .i64 a5_0, .slice A5_1 l5_1.length c5_1]) (t := 49) ?hr ?_; (case hd => rfl); (case hg => rfl); (case hr => first | (go_simp; done) | (go_simp; rfl)); intro gb193 hg w63 hbox hb; have n0_ := Aside0.mk (below_step bz_ hb); have n1_ := Aside0.mk (hbox); have n2_ := Aside0.mk ((hz_ hg : w.heap.size ≤ gb193)); have n3_ := Aside0.mk ((hz_ hg : w.heap.size ≤ gb193)); clear HB; have HB := n0_; have BK193 := n1_; have GW193 := n2_; have GE193 := n3_; clear n0_ n1_ n2_ n3_; clear hb hbox hg; have hcz64_0 : w63.cell? ⟨gb193, 0, none⟩ = some (.int .i64 a5_0) := (blk_cell BK193.out 0).trans rfl; have hcz64_1 : w63.cell? ⟨gb193, 1, none⟩ = some (.slice A5_1 l5_1.length c5_1) := (blk_cell BK193.out 1).trans rfl; have hfz64_0 := blk_frozen BK193.out 0; have hfz64_1 := blk_frozen BK193.out 1) | (go_at_call 94; (with_reducible refine (spec_l5First.calls k _ _ l0 a4 t201 _ ?side1 ?side2 A51.out).mono ?_); (case side1 => exact cy_ HR0.out HB.out); (case side2 => exact HC0.out); rintro e w' ⟨rfl, ⟨nd, rfl⟩⟩; (try exact dw_); have p202 : 0 ≤ (t201 : Int) := of_decide_eq_true az_; have q202 : t201 < (l1.length : Int) := of_decide_eq_true az_; obtain ⟨ad202, A202_0, c202_0, e202, hx202_0, hl202_0, hi202_0⟩ := at_L6 HR1.out t201 p202 q202; cases e202; replace hx202_0 := (HB.out.cell (World.block_lt_of_cell? w _ hx202_0)).trans hx202_0; have HR202_0 := Aside0.mk hi202_0; have HC202_0 := Aside0.mk hl202_0; clear hi202_0 hl202_0; replace p202 := eq_true p202; replace q202 := eq_true q202; have p203 : 0 ≤ ((ji54) : Int) := of_decide_eq_true az_; have q203 : (ji54) < (l1.length : Int) := of_decide_eq_true az_; obtain ⟨ad203, A203_0, c203_0, e203, hx203_0, hl203_0, hi203_0⟩ := at_L6 HR1.out (ji54) p203 q203; obtain rfl : ad202 = ad203 := (by injection e203); replace hx203_0 := (HB.out.cell (World.block_lt_of_cell? w _ hx203_0)).trans hx203_0; have HR203_0 := Aside0.mk hi203_0; have HC203_0 := Aside0.mk hl203_0; clear hi203_0 hl203_0; replace p203 := eq_true p203; replace q203 := eq_true q203; have p204 : 0 ≤ ((ji58) : Int) := of_decide_eq_true az_; have q204 : (ji58) < ((rd_L6 l1 t201).length : Int) := of_decide_eq_true az_; obtain ⟨ad204, e204, hx204_0⟩ := Kd.at_bool HR202_0.out (ji58) p204 q204; (try rw [← Nbq61.out] at hx204_0); cases e204; replace hx204_0 := (HB.out.cell (World.block_lt_of_cell? w _ hx204_0)).trans hx204_0; replace p204 := eq_true p204; replace q204 := eq_true q204))
             repeat (go_quiet (first | ((with_reducible refine gate_dst (N := 13) rfl ?_); refine box_event ?hg (N := 13) ?hd (cs := #[.int .i64 a5_0, .slice A5_1 l5_1.length c5_1]) (t := 49) ?hr ?_; (case hd => rfl); (case hg => rfl); (case hr => first | (go_simp; done) | (go_simp; rfl)); intro gb193 hg w63 hbox hb; have n0_ := Aside0.mk (below_step bz_ hb); have n1_ := Aside0.mk (hbox); have n2_ := Aside0.mk ((hz_ hg : w.heap.size ≤ gb193)); have n3_ := Aside0.mk ((hz_ hg : w.heap.size ≤ gb193)); clear HB; have HB := n0_; have BK193 := n1_; have GW193 := n2_; have GE193 := n3_; clear n0_ n1_ n2_ n3_; clear hb hbox hg; have hcz64_0 : w63.cell? ⟨gb193, 0, none⟩ = some (.int .i64 a5_0) := (blk_cell BK193.out 0).trans rfl; have hcz64_1 : w63.cell? ⟨gb193, 1, none⟩ = some (.slice A5_1 l5_1.length c5_1) := (blk_cell BK193.out 1).trans rfl; have hfz64_0 := blk_frozen BK193.out 0; have hfz64_1 := blk_frozen BK193.out 1) | (go_at_call 94; (with_reducible refine (spec_l5First.calls k _ _ l0 a4 t201 _ ?side1 ?side2 A51.out).mono ?_); (case side1 => exact cy_ HR0.out HB.out); (case side2 => exact HC0.out); rintro e w' ⟨rfl, ⟨nd, rfl⟩⟩; (try exact dw_); have p202 : 0 ≤ (t201 : Int) := of_decide_eq_true az_; have q202 : t201 < (l1.length : Int) := of_decide_eq_true az_; obtain ⟨ad202, A202_0, c202_0, e202, hx202_0, hl202_0, hi202_0⟩ := at_L6 HR1.out t201 p202 q202; cases e202; replace hx202_0 := (HB.out.cell (World.block_lt_of_cell? w _ hx202_0)).trans hx202_0; have HR202_0 := Aside0.mk hi202_0; have HC202_0 := Aside0.mk hl202_0; clear hi202_0 hl202_0; replace p202 := eq_true p202; replace q202 := eq_true q202; have p203 : 0 ≤ ((ji54) : Int) := of_decide_eq_true az_; have q203 : (ji54) < (l1.length : Int) := of_decide_eq_true az_; obtain ⟨ad203, A203_0, c203_0, e203, hx203_0, hl203_0, hi203_0⟩ := at_L6 HR1.out (ji54) p203 q203; obtain rfl : ad202 = ad203 := (by injection e203); replace hx203_0 := (HB.out.cell (World.block_lt_of_cell? w _ hx203_0)).trans hx203_0; have HR203_0 := Aside0.mk hi203_0; have HC203_0 := Aside0.mk hl203_0; clear hi203_0 hl203_0; replace p203 := eq_true p203; replace q203 := eq_true q203; have p204 : 0 ≤ ((ji58) : Int) := of_decide_eq_true az_; have q204 : (ji58) < ((rd_L6 l1 t201).length : Int) := of_decide_eq_true az_; obtain ⟨ad204, e204, hx204_0⟩ := Kd.at_bool HR202_0.out (ji58) p204 q204; (try rw [← Nbq61.out] at hx204_0); cases e204; replace hx204_0 := (HB.out.cell (World.block_lt_of_cell? w _ hx204_0)).trans hx204_0; replace p204 := eq_true p204; replace q204 := eq_true q204)); try go_wp2_with (first | ((with_reducible refine gate_dst (N := 13) rfl ?_); refine box_event ?hg (N := 13) ?hd (cs := #[.int .i64 a5_0, .slice A5_1 l5_1.length c5_1]) (t := 49) ?hr ?_; (case hd => rfl); (case hg => rfl); (case hr => first | (go_simp; done) | (go_simp; rfl)); intro gb193 hg w63 hbox hb; have n0_ := Aside0.mk (below_step bz_ hb); have n1_ := Aside0.mk (hbox); have n2_ := Aside0.mk ((hz_ hg : w.heap.size ≤ gb193)); have n3_ := Aside0.mk ((hz_ hg : w.heap.size ≤ gb193)); clear HB; have HB := n0_; have BK193 := n1_; have GW193 := n2_; have GE193 := n3_; clear n0_ n1_ n2_ n3_; clear hb hbox hg; have hcz64_0 : w63.cell? ⟨gb193, 0, none⟩ = some (.int .i64 a5_0) := (blk_cell BK193.out 0).trans rfl; have hcz64_1 : w63.cell? ⟨gb193, 1, none⟩ = some (.slice A5_1 l5_1.length c5_1) := (blk_cell BK193.out 1).trans rfl; have hfz64_0 := blk_frozen BK193.out 0; have hfz64_1 := blk_frozen BK193.out 1) | (go_at_call 94; (with_reducible refine (spec_l5First.calls k _ _ l0 a4 t201 _ ?side1 ?side2 A51.out).mono ?_); (case side1 => exact cy_ HR0.out HB.out); (case side2 => exact HC0.out); rintro e w' ⟨rfl, ⟨nd, rfl⟩⟩; (try exact dw_); have p202 : 0 ≤ (t201 : Int) := of_decide_eq_true az_; have q202 : t201 < (l1.length : Int) := of_decide_eq_true az_; obtain ⟨ad202, A202_0, c202_0, e202, hx202_0, hl202_0, hi202_0⟩ := at_L6 HR1.out t201 p202 q202; cases e202; replace hx202_0 := (HB.out.cell (World.block_lt_of_cell? w _ hx202_0)).trans hx202_0; have HR202_0 := Aside0.mk hi202_0; have HC202_0 := Aside0.mk hl202_0; clear hi202_0 hl202_0; replace p202 := eq_true p202; replace q202 := eq_true q202; have p203 : 0 ≤ ((ji54) : Int) := of_decide_eq_true az_; have q203 : (ji54) < (l1.length : Int) := of_decide_eq_true az_; obtain ⟨ad203, A203_0, c203_0, e203, hx203_0, hl203_0, hi203_0⟩ := at_L6 HR1.out (ji54) p203 q203; obtain rfl : ad202 = ad203 := (by injection e203); replace hx203_0 := (HB.out.cell (World.block_lt_of_cell? w _ hx203_0)).trans hx203_0; have HR203_0 := Aside0.mk hi203_0; have HC203_0 := Aside0.mk hl203_0; clear hi203_0 hl203_0; replace p203 := eq_true p203; replace q203 := eq_true q203; have p204 : 0 ≤ ((ji58) : Int) := of_decide_eq_true az_; have q204 : (ji58) < ((rd_L6 l1 t201).length : Int) := of_decide_eq_true az_; obtain ⟨ad204, e204, hx204_0⟩ := Kd.at_bool HR202_0.out (ji58) p204 q204; (try rw [← Nbq61.out] at hx204_0); cases e204; replace hx204_0 := (HB.out.cell (World.block_lt_of_cell? w _ hx204_0)).trans hx204_0; replace p204 := eq_true p204; replace q204 := eq_true q204)))
             go_ret
             exact ⟨by first | rfl | (simp [errW_none, errW_some] <;> rfl) | (simp only [← hji54, ← hji58]; first | rfl | (simp [errW_none, errW_some] <;> rfl)) | (simp [*, errW_none, errW_some] <;> rfl), bg_ GE193.out⟩
            ·replace c62 := Bool.eq_false_iff.mpr c62
             subst c62
             have H1 := H
             rw [if_neg (show ¬ (false = true) by decide)] at H1
             clear H
             have H := H1
             clear H1
             by_cases c65 : (ji58) < ((rd_L6 l1 (ji54)).length : Int)
             ·rw [if_pos c65] at H
              have c65b0 := decide_eq_true c65
              clear c65
              obtain rfl := Option.some.inj H
              go_enter Try.func114, Try.ntmps114
              go_wp2_with (first | ((with_reducible refine gate_dst (N := 13) rfl ?_); refine box_event ?hg (N := 13) ?hd (cs := #[.int .i64 a5_0, .slice A5_1 l5_1.length c5_1]) (t := 49) ?hr ?_; (case hd => rfl); (case hg => rfl); (case hr => first | (go_simp; done) | (go_simp; rfl)); intro gb193 hg w66 hbox hb; have n0_ := Aside0.mk (below_step bz_ hb); have n1_ := Aside0.mk (hbox); have n2_ := Aside0.mk ((hz_ hg : w.heap.size ≤ gb193)); have n3_ := Aside0.mk ((hz_ hg : w.heap.size ≤ gb193)); clear HB; have HB := n0_; have BK193 := n1_; have GW193 := n2_; have GE193 := n3_; clear n0_ n1_ n2_ n3_; clear hb hbox hg; have hcz67_0 : w66.cell? ⟨gb193, 0, none⟩ = some (.int .i64 a5_0) := (blk_cell BK193.out 0).trans rfl; have hcz67_1 : w66.cell? ⟨gb193, 1, none⟩ = some (.slice A5_1 l5_1.length c5_1) := (blk_cell BK193.out 1).trans rfl; have hfz67_0 := blk_frozen BK193.out 0; have hfz67_1 := blk_frozen BK193.out 1) | (go_at_call 94; (with_reducible refine (spec_l5First.calls k _ _ l0 a4 t201 _ ?side1 ?side2 A51.out).mono ?_); (case side1 => exact cy_ HR0.out HB.out); (case side2 => exact HC0.out); rintro e w' ⟨rfl, ⟨nd, rfl⟩⟩; (try exact dw_); have p202 : 0 ≤ (t201 : Int) := of_decide_eq_true az_; have q202 : t201 < (l1.length : Int) := of_decide_eq_true az_; obtain ⟨ad202, A202_0, c202_0, e202, hx202_0, hl202_0, hi202_0⟩ := at_L6 HR1.out t201 p202 q202; cases e202; replace hx202_0 := (HB.out.cell (World.block_lt_of_cell? w _ hx202_0)).trans hx202_0; have HR202_0 := Aside0.mk hi202_0; have HC202_0 := Aside0.mk hl202_0; clear hi202_0 hl202_0; replace p202 := eq_true p202; replace q202 := eq_true q202; have p203 : 0 ≤ ((ji54) : Int) := of_decide_eq_true az_; have q203 : (ji54) < (l1.length : Int) := of_decide_eq_true az_; obtain ⟨ad203, A203_0, c203_0, e203, hx203_0, hl203_0, hi203_0⟩ := at_L6 HR1.out (ji54) p203 q203; obtain rfl : ad202 = ad203 := (by injection e203); replace hx203_0 := (HB.out.cell (World.block_lt_of_cell? w _ hx203_0)).trans hx203_0; have HR203_0 := Aside0.mk hi203_0; have HC203_0 := Aside0.mk hl203_0; clear hi203_0 hl203_0; replace p203 := eq_true p203; replace q203 := eq_true q203; have p204 : 0 ≤ ((ji58) : Int) := of_decide_eq_true az_; have q204 : (ji58) < ((rd_L6 l1 t201).length : Int) := of_decide_eq_true az_; obtain ⟨ad204, e204, hx204_0⟩ := Kd.at_bool HR202_0.out (ji58) p204 q204; (try rw [← Nbq61.out] at hx204_0); cases e204; replace hx204_0 := (HB.out.cell (World.block_lt_of_cell? w _ hx204_0)).trans hx204_0; replace p204 := eq_true p204; replace q204 := eq_true q204; have p205 : 0 ≤ ((ji58) : Int) := of_decide_eq_true az_; have q205 : (ji58) < ((rd_L6 l1 (ji54)).length : Int) := of_decide_eq_true az_; obtain ⟨ad205, e205, hx205_0⟩ := Kd.at_bool HR203_0.out (ji58) p205 q205; (try rw [← Nbq61.out] at hx205_0); cases e205; replace hx205_0 := (HB.out.cell (World.block_lt_of_cell? w _ hx205_0)).trans hx205_0; replace p205 := eq_true p205; replace q205 := eq_true q205))
              repeat (go_quiet (first | ((with_reducible refine gate_dst (N := 13) rfl ?_); refine box_event ?hg (N := 13) ?hd (cs := #[.int .i64 a5_0, .slice A5_1 l5_1.length c5_1]) (t := 49) ?hr ?_; (case hd => rfl); (case hg => rfl); (case hr => first | (go_simp; done) | (go_simp; rfl)); intro gb193 hg w66 hbox hb; have n0_ := Aside0.mk (below_step bz_ hb); have n1_ := Aside0.mk (hbox); have n2_ := Aside0.mk ((hz_ hg : w.heap.size ≤ gb193)); have n3_ := Aside0.mk ((hz_ hg : w.heap.size ≤ gb193)); clear HB; have HB := n0_; have BK193 := n1_; have GW193 := n2_; have GE193 := n3_; clear n0_ n1_ n2_ n3_; clear hb hbox hg; have hcz67_0 : w66.cell? ⟨gb193, 0, none⟩ = some (.int .i64 a5_0) := (blk_cell BK193.out 0).trans rfl; have hcz67_1 : w66.cell? ⟨gb193, 1, none⟩ = some (.slice A5_1 l5_1.length c5_1) := (blk_cell BK193.out 1).trans rfl; have hfz67_0 := blk_frozen BK193.out 0; have hfz67_1 := blk_frozen BK193.out 1) | (go_at_call 94; (with_reducible refine (spec_l5First.calls k _ _ l0 a4 t201 _ ?side1 ?side2 A51.out).mono ?_); (case side1 => exact cy_ HR0.out HB.out); (case side2 => exact HC0.out); rintro e w' ⟨rfl, ⟨nd, rfl⟩⟩; (try exact dw_); have p202 : 0 ≤ (t201 : Int) := of_decide_eq_true az_; have q202 : t201 < (l1.length : Int) := of_decide_eq_true az_; obtain ⟨ad202, A202_0, c202_0, e202, hx202_0, hl202_0, hi202_0⟩ := at_L6 HR1.out t201 p202 q202; cases e202; replace hx202_0 := (HB.out.cell (World.block_lt_of_cell? w _ hx202_0)).trans hx202_0; have HR202_0 := Aside0.mk hi202_0; have HC202_0 := Aside0.mk hl202_0; clear hi202_0 hl202_0; replace p202 := eq_true p202; replace q202 := eq_true q202; have p203 : 0 ≤ ((ji54) : Int) := of_decide_eq_true az_; have q203 : (ji54) < (l1.length : Int) := of_decide_eq_true az_; obtain ⟨ad203, A203_0, c203_0, e203, hx203_0, hl203_0, hi203_0⟩ := at_L6 HR1.out (ji54) p203 q203; obtain rfl : ad202 = ad203 := (by injection e203); replace hx203_0 := (HB.out.cell (World.block_lt_of_cell? w _ hx203_0)).trans hx203_0; have HR203_0 := Aside0.mk hi203_0; have HC203_0 := Aside0.mk hl203_0; clear hi203_0 hl203_0; replace p203 := eq_true p203; replace q203 := eq_true q203; have p204 : 0 ≤ ((ji58) : Int) := of_decide_eq_true az_; have q204 : (ji58) < ((rd_L6 l1 t201).length : Int) := of_decide_eq_true az_; obtain ⟨ad204, e204, hx204_0⟩ := Kd.at_bool HR202_0.out (ji58) p204 q204; (try rw [← Nbq61.out] at hx204_0); cases e204; replace hx204_0 := (HB.out.cell (World.block_lt_of_cell? w _ hx204_0)).trans hx204_0; replace p204 := eq_true p204; replace q204 := eq_true q204; have p205 : 0 ≤ ((ji58) : Int) := of_decide_eq_true az_; have q205 : (ji58) < ((rd_L6 l1 (ji54)).length : Int) := of_decide_eq_true az_; obtain ⟨ad205, e205, hx205_0⟩ := Kd.at_bool HR203_0.out (ji58) p205 q205; (try rw [← Nbq61.out] at hx205_0); cases e205; replace hx205_0 := (HB.out.cell (World.block_lt_of_cell? w _ hx205_0)).trans hx205_0; replace p205 := eq_true p205; replace q205 := eq_true q205)); try go_wp2_with (first | ((with_reducible refine gate_dst (N := 13) rfl ?_); refine box_event ?hg (N := 13) ?hd (cs := #[.int .i64 a5_0, .slice A5_1 l5_1.length c5_1]) (t := 49) ?hr ?_; (case hd => rfl); (case hg => rfl); (case hr => first | (go_simp; done) | (go_simp; rfl)); intro gb193 hg w66 hbox hb; have n0_ := Aside0.mk (below_step bz_ hb); have n1_ := Aside0.mk (hbox); have n2_ := Aside0.mk ((hz_ hg : w.heap.size ≤ gb193)); have n3_ := Aside0.mk ((hz_ hg : w.heap.size ≤ gb193)); clear HB; have HB := n0_; have BK193 := n1_; have GW193 := n2_; have GE193 := n3_; clear n0_ n1_ n2_ n3_; clear hb hbox hg; have hcz67_0 : w66.cell? ⟨gb193, 0, none⟩ = some (.int .i64 a5_0) := (blk_cell BK193.out 0).trans rfl; have hcz67_1 : w66.cell? ⟨gb193, 1, none⟩ = some (.slice A5_1 l5_1.length c5_1) := (blk_cell BK193.out 1).trans rfl; have hfz67_0 := blk_frozen BK193.out 0; have hfz67_1 := blk_frozen BK193.out 1) | (go_at_call 94; (with_reducible refine (spec_l5First.calls k _ _ l0 a4 t201 _ ?side1 ?side2 A51.out).mono ?_); (case side1 => exact cy_ HR0.out HB.out); (case side2 => exact HC0.out); rintro e w' ⟨rfl, ⟨nd, rfl⟩⟩; (try exact dw_); have p202 : 0 ≤ (t201 : Int) := of_decide_eq_true az_; have q202 : t201 < (l1.length : Int) := of_decide_eq_true az_; obtain ⟨ad202, A202_0, c202_0, e202, hx202_0, hl202_0, hi202_0⟩ := at_L6 HR1.out t201 p202 q202; cases e202; replace hx202_0 := (HB.out.cell (World.block_lt_of_cell? w _ hx202_0)).trans hx202_0; have HR202_0 := Aside0.mk hi202_0; have HC202_0 := Aside0.mk hl202_0; clear hi202_0 hl202_0; replace p202 := eq_true p202; replace q202 := eq_true q202; have p203 : 0 ≤ ((ji54) : Int) := of_decide_eq_true az_; have q203 : (ji54) < (l1.length : Int) := of_decide_eq_true az_; obtain ⟨ad203, A203_0, c203_0, e203, hx203_0, hl203_0, hi203_0⟩ := at_L6 HR1.out (ji54) p203 q203; obtain rfl : ad202 = ad203 := (by injection e203); replace hx203_0 := (HB.out.cell (World.block_lt_of_cell? w _ hx203_0)).trans hx203_0; have HR203_0 := Aside0.mk hi203_0; have HC203_0 := Aside0.mk hl203_0; clear hi203_0 hl203_0; replace p203 := eq_true p203; replace q203 := eq_true q203; have p204 : 0 ≤ ((ji58) : Int) := of_decide_eq_true az_; have q204 : (ji58) < ((rd_L6 l1 t201).length : Int) := of_decide_eq_true az_; obtain ⟨ad204, e204, hx204_0⟩ := Kd.at_bool HR202_0.out (ji58) p204 q204; (try rw [← Nbq61.out] at hx204_0); cases e204; replace hx204_0 := (HB.out.cell (World.block_lt_of_cell? w _ hx204_0)).trans hx204_0; replace p204 := eq_true p204; replace q204 := eq_true q204; have p205 : 0 ≤ ((ji58) : Int) := of_decide_eq_true az_; have q205 : (ji58) < ((rd_L6 l1 (ji54)).length : Int) := of_decide_eq_true az_; obtain ⟨ad205, e205, hx205_0⟩ := Kd.at_bool HR203_0.out (ji58) p205 q205; (try rw [← Nbq61.out] at hx205_0); cases e205; replace hx205_0 := (HB.out.cell (World.block_lt_of_cell? w _ hx205_0)).trans hx205_0; replace p205 := eq_true p205; replace q205 := eq_true q205)))
              go_ret
              exact ⟨by first | rfl | (simp [errW_none, errW_some] <;> rfl) | (simp only [← hji54, ← hji58]; first | rfl | (simp [errW_none, errW_some] <;> rfl)) | (simp [*, errW_none, errW_some] <;> rfl), bg_ GE193.out⟩
             ·rw [if_neg c65] at H
              exact absurd H (by simp)
           ·rw [if_neg c60] at H
            exact absurd H (by simp)
          ·rw [if_neg c59] at H
           exact absurd H (by simp)
         ·rw [if_neg c57] at H
          have c57b0 := q3_ c57
          have c57b1 := q4_ c57
          by_cases c68 : a5_0 = 5
          ·rw [if_pos c68] at H
           have c68b0 := q1_ c68
           have c68b1 := q2_ c68
           clear c68
           obtain ⟨ji69, hji69⟩ : ∃ j_ : Int, (wrap64 ((wrap64 (a6 * (wrap64 ((l3.length : Int) + 1)))) + a7)) = j_ := ⟨_, rfl⟩
           replace H : (if 0 ≤ (ji69) then (if (ji69) < ((rd_L6 l1 t201).length : Int) then (if rdOf false (rd_L6 l1 t201) (ji69) = true then (if (ji69) < ((rd_L6 l1 (ji54)).length : Int) then (some (rdOf false (rd_L6 l1 (ji54)) (ji69))) else (none)) else (some false)) else (none)) else (none)) = some r := jz_ hji69 H
           (try rw [hji69] at A51)
           have hji69w : (IntKind.i64.wrap ((wrap64 (a6 * (wrap64 ((l3.length : Int) + 1)))) + a7)) = ji69 := (i64_w _).trans hji69
           by_cases c70 : 0 ≤ (ji69)
           ·rw [if_pos c70] at H
            have c70b0 := decide_eq_true c70
            clear c70
            by_cases c71 : (ji69) < ((rd_L6 l1 t201).length : Int)
            ·rw [if_pos c71] at H
             have c71b0 := decide_eq_true c71
             clear c71
             obtain ⟨bq72, hbq72⟩ : ∃ b_ : Bool, b_ = (rdOf false (rd_L6 l1 t201) (ji69)) := ⟨_, rfl⟩
             replace H : (if bq72 = true then (if (ji69) < ((rd_L6 l1 (ji54)).length : Int) then (some (rdOf false (rd_L6 l1 (ji54)) (ji69))) else (none)) else (some false)) = some r := by rw [← hbq72] at H; exact H
             have Nbq72 := Aside0.mk hbq72
             clear hbq72
             by_cases c73 : bq72 = true
             ·subst c73
              have H1 := H
              rw [if_pos rfl] at H1
              clear H
              have H := H1
              clear H1
              by_cases c74 : (ji69) < ((rd_L6 l1 (ji54)).length : Int)
              ·rw [if_pos c74] at H
               have c74b0 := decide_eq_true c74
               clear c74
               obtain rfl := Option.some.inj H
               go_enter Try.func114, Try.ntmps114
               go_wp2_with (first | ((with_reducible refine gate_dst (N := 13) rfl ?_); refine box_event ?hg (N := 13) ?hd (cs := #[.int .i64 a5_0, .slice A5_1 l5_1.length c5_1]) (t := 49) ?hr ?_; (case hd => rfl); (case hg => rfl); (case hr => first | (go_simp; done) | (go_simp; rfl)); intro gb193 hg w75 hbox hb; have n0_ := Aside0.mk (below_step bz_ hb); have n1_ := Aside0.mk (hbox); have n2_ := Aside0.mk ((hz_ hg : w.heap.size ≤ gb193)); have n3_ := Aside0.mk ((hz_ hg : w.heap.size ≤ gb193)); clear HB; have HB := n0_; have BK193 := n1_; have GW193 := n2_; have GE193 := n3_; clear n0_ n1_ n2_ n3_; clear hb hbox hg; have hcz76_0 : w75.cell? ⟨gb193, 0, none⟩ = some (.int .i64 a5_0) := (blk_cell BK193.out 0).trans rfl; have hcz76_1 : w75.cell? ⟨gb193, 1, none⟩ = some (.slice A5_1 l5_1.length c5_1) := (blk_cell BK193.out 1).trans rfl; have hfz76_0 := blk_frozen BK193.out 0; have hfz76_1 := blk_frozen BK193.out 1) | (go_at_call 94; (with_reducible refine (spec_l5First.calls k _ _ l0 a4 t201 _ ?side1 ?side2 A51.out).mono ?_); (case side1 => exact cy_ HR0.out HB.out); (case side2 => exact HC0.out); rintro e w' ⟨rfl, ⟨nd, rfl⟩⟩; (try exact dw_); have p202 : 0 ≤ (t201 : Int) := of_decide_eq_true az_; have q202 : t201 < (l1.length : Int) := of_decide_eq_true az_; obtain ⟨ad202, A202_0, c202_0, e202, hx202_0, hl202_0, hi202_0⟩ := at_L6 HR1.out t201 p202 q202; cases e202; replace hx202_0 := (HB.out.cell (World.block_lt_of_cell? w _ hx202_0)).trans hx202_0; have HR202_0 := Aside0.mk hi202_0; have HC202_0 := Aside0.mk hl202_0; clear hi202_0 hl202_0; replace p202 := eq_true p202; replace q202 := eq_true q202; have p203 : 0 ≤ ((ji54) : Int) := of_decide_eq_true az_; have q203 : (ji54) < (l1.length : Int) := of_decide_eq_true az_; obtain ⟨ad203, A203_0, c203_0, e203, hx203_0, hl203_0, hi203_0⟩ := at_L6 HR1.out (ji54) p203 q203; obtain rfl : ad202 = ad203 := (by injection e203); replace hx203_0 := (HB.out.cell (World.block_lt_of_cell? w _ hx203_0)).trans hx203_0; have HR203_0 := Aside0.mk hi203_0; have HC203_0 := Aside0.mk hl203_0; clear hi203_0 hl203_0; replace p203 := eq_true p203; replace q203 := eq_true q203; have p206 : 0 ≤ ((ji69) : Int) := of_decide_eq_true az_; have q206 : (ji69) < ((rd_L6 l1 t201).length : Int) := of_decide_eq_true az_; obtain ⟨ad206, e206, hx206_0⟩ := Kd.at_bool HR202_0.out (ji69) p206 q206; (try rw [← Nbq72.out] at hx206_0); cases e206; replace hx206_0 := (HB.out.cell (World.block_lt_of_cell? w _ hx206_0)).trans hx206_0; replace p206 := eq_true p206; replace q206 := eq_true q206; have p207 : 0 ≤ ((ji69) : Int) := of_decide_eq_true az_; have q207 : (ji69) < ((rd_L6 l1 (ji54)).length : Int) := of_decide_eq_true az_; obtain ⟨ad207, e207, hx207_0⟩ := Kd.at_bool HR203_0.out (ji69) p207 q207; (try rw [← Nbq72.out] at hx207_0); cases e207; replace hx207_0 := (HB.out.cell (World.block_lt_of_cell? w _ hx207_0)).trans hx207_0; replace p207 := eq_true p207; replace q207 := eq_true q207))
               repeat (go_quiet (first | ((with_reducible refine gate_dst (N := 13) rfl ?_); refine box_event ?hg (N := 13) ?hd (cs := #[.int .i64 a5_0, .slice A5_1 l5_1.length c5_1]) (t := 49) ?hr ?_; (case hd => rfl); (case hg => rfl); (case hr => first | (go_simp; done) | (go_simp; rfl)); intro gb193 hg w75 hbox hb; have n0_ := Aside0.mk (below_step bz_ hb); have n1_ := Aside0.mk (hbox); have n2_ := Aside0.mk ((hz_ hg : w.heap.size ≤ gb193)); have n3_ := Aside0.mk ((hz_ hg : w.heap.size ≤ gb193)); clear HB; have HB := n0_; have BK193 := n1_; have GW193 := n2_; have GE193 := n3_; clear n0_ n1_ n2_ n3_; clear hb hbox hg; have hcz76_0 : w75.cell? ⟨gb193, 0, none⟩ = some (.int .i64 a5_0) := (blk_cell BK193.out 0).trans rfl; have hcz76_1 : w75.cell? ⟨gb193, 1, none⟩ = some (.slice A5_1 l5_1.length c5_1) := (blk_cell BK193.out 1).trans rfl; have hfz76_0 := blk_frozen BK193.out 0; have hfz76_1 := blk_frozen BK193.out 1) | (go_at_call 94; (with_reducible refine (spec_l5First.calls k _ _ l0 a4 t201 _ ?side1 ?side2 A51.out).mono ?_); (case side1 => exact cy_ HR0.out HB.out); (case side2 => exact HC0.out); rintro e w' ⟨rfl, ⟨nd, rfl⟩⟩; (try exact dw_); have p202 : 0 ≤ (t201 : Int) := of_decide_eq_true az_; have q202 : t201 < (l1.length : Int) := of_decide_eq_true az_; obtain ⟨ad202, A202_0, c202_0, e202, hx202_0, hl202_0, hi202_0⟩ := at_L6 HR1.out t201 p202 q202; cases e202; replace hx202_0 := (HB.out.cell (World.block_lt_of_cell? w _ hx202_0)).trans hx202_0; have HR202_0 := Aside0.mk hi202_0; have HC202_0 := Aside0.mk hl202_0; clear hi202_0 hl202_0; replace p202 := eq_true p202; replace q202 := eq_true q202; have p203 : 0 ≤ ((ji54) : Int) := of_decide_eq_true az_; have q203 : (ji54) < (l1.length : Int) := of_decide_eq_true az_; obtain ⟨ad203, A203_0, c203_0, e203, hx203_0, hl203_0, hi203_0⟩ := at_L6 HR1.out (ji54) p203 q203; obtain rfl : ad202 = ad203 := (by injection e203); replace hx203_0 := (HB.out.cell (World.block_lt_of_cell? w _ hx203_0)).trans hx203_0; have HR203_0 := Aside0.mk hi203_0; have HC203_0 := Aside0.mk hl203_0; clear hi203_0 hl203_0; replace p203 := eq_true p203; replace q203 := eq_true q203; have p206 : 0 ≤ ((ji69) : Int) := of_decide_eq_true az_; have q206 : (ji69) < ((rd_L6 l1 t201).length : Int) := of_decide_eq_true az_; obtain ⟨ad206, e206, hx206_0⟩ := Kd.at_bool HR202_0.out (ji69) p206 q206; (try rw [← Nbq72.out] at hx206_0); cases e206; replace hx206_0 := (HB.out.cell (World.block_lt_of_cell? w _ hx206_0)).trans hx206_0; replace p206 := eq_true p206; replace q206 := eq_true q206; have p207 : 0 ≤ ((ji69) : Int) := of_decide_eq_true az_; have q207 : (ji69) < ((rd_L6 l1 (ji54)).length : Int) := of_decide_eq_true az_; obtain ⟨ad207, e207, hx207_0⟩ := Kd.at_bool HR203_0.out (ji69) p207 q207; (try rw [← Nbq72.out] at hx207_0); cases e207; replace hx207_0 := (HB.out.cell (World.block_lt_of_cell? w _ hx207_0)).trans hx207_0; replace p207 := eq_true p207; replace q207 := eq_true q207)); try go_wp2_with (first | ((with_reducible refine gate_dst (N := 13) rfl ?_); refine box_event ?hg (N := 13) ?hd (cs := #[.int .i64 a5_0, .slice A5_1 l5_1.length c5_1]) (t := 49) ?hr ?_; (case hd => rfl); (case hg => rfl); (case hr => first | (go_simp; done) | (go_simp; rfl)); intro gb193 hg w75 hbox hb; have n0_ := Aside0.mk (below_step bz_ hb); have n1_ := Aside0.mk (hbox); have n2_ := Aside0.mk ((hz_ hg : w.heap.size ≤ gb193)); have n3_ := Aside0.mk ((hz_ hg : w.heap.size ≤ gb193)); clear HB; have HB := n0_; have BK193 := n1_; have GW193 := n2_; have GE193 := n3_; clear n0_ n1_ n2_ n3_; clear hb hbox hg; have hcz76_0 : w75.cell? ⟨gb193, 0, none⟩ = some (.int .i64 a5_0) := (blk_cell BK193.out 0).trans rfl; have hcz76_1 : w75.cell? ⟨gb193, 1, none⟩ = some (.slice A5_1 l5_1.length c5_1) := (blk_cell BK193.out 1).trans rfl; have hfz76_0 := blk_frozen BK193.out 0; have hfz76_1 := blk_frozen BK193.out 1) | (go_at_call 94; (with_reducible refine (spec_l5First.calls k _ _ l0 a4 t201 _ ?side1 ?side2 A51.out).mono ?_); (case side1 => exact cy_ HR0.out HB.out); (case side2 => exact HC0.out); rintro e w' ⟨rfl, ⟨nd, rfl⟩⟩; (try exact dw_); have p202 : 0 ≤ (t201 : Int) := of_decide_eq_true az_; have q202 : t201 < (l1.length : Int) := of_decide_eq_true az_; obtain ⟨ad202, A202_0, c202_0, e202, hx202_0, hl202_0, hi202_0⟩ := at_L6 HR1.out t201 p202 q202; cases e202; replace hx202_0 := (HB.out.cell (World.block_lt_of_cell? w _ hx202_0)).trans hx202_0; have HR202_0 := Aside0.mk hi202_0; have HC202_0 := Aside0.mk hl202_0; clear hi202_0 hl202_0; replace p202 := eq_true p202; replace q202 := eq_true q202; have p203 : 0 ≤ ((ji54) : Int) := of_decide_eq_true az_; have q203 : (ji54) < (l1.length : Int) := of_decide_eq_true az_; obtain ⟨ad203, A203_0, c203_0, e203, hx203_0, hl203_0, hi203_0⟩ := at_L6 HR1.out (ji54) p203 q203; obtain rfl : ad202 = ad203 := (by injection e203); replace hx203_0 := (HB.out.cell (World.block_lt_of_cell? w _ hx203_0)).trans hx203_0; have HR203_0 := Aside0.mk hi203_0; have HC203_0 := Aside0.mk hl203_0; clear hi203_0 hl203_0; replace p203 := eq_true p203; replace q203 := eq_true q203; have p206 : 0 ≤ ((ji69) : Int) := of_decide_eq_true az_; have q206 : (ji69) < ((rd_L6 l1 t201).length : Int) := of_decide_eq_true az_; obtain ⟨ad206, e206, hx206_0⟩ := Kd.at_bool HR202_0.out (ji69) p206 q206; (try rw [← Nbq72.out] at hx206_0); cases e206; replace hx206_0 := (HB.out.cell (World.block_lt_of_cell? w _ hx206_0)).trans hx206_0; replace p206 := eq_true p206; replace q206 := eq_true q206; have p207 : 0 ≤ ((ji69) : Int) := of_decide_eq_true az_; have q207 : (ji69) < ((rd_L6 l1 (ji54)).length : Int) := of_decide_eq_true az_; obtain ⟨ad207, e207, hx207_0⟩ := Kd.at_bool HR203_0.out (ji69) p207 q207; (try rw [← Nbq72.out] at hx207_0); cases e207; replace hx207_0 := (HB.out.cell (World.block_lt_of_cell? w _ hx207_0)).trans hx207_0; replace p207 := eq_true p207; replace q207 := eq_true q207)))
               go_ret
               exact ⟨by first | rfl | (simp [errW_none, errW_some] <;> rfl) | (simp only [← hji54, ← hji69]; first | rfl | (simp [errW_none, errW_some] <;> rfl)) | (simp [*, errW_none, errW_some] <;> rfl), bg_ GE193.out⟩
              ·rw [if_neg c74] at H
               exact absurd H (by simp)
             ·replace c73 := Bool.eq_false_iff.mpr c73
              subst c73
              have H1 := H
              rw [if_neg (show ¬ (false = true) by decide)] at H1
              clear H
              have H := H1
              clear H1
              obtain rfl := Option.some.inj H
              go_enter Try.func114, Try.ntmps114
              go_wp2_with (first | ((with_reducible refine gate_dst (N := 13) rfl ?_); refine box_event ?hg (N := 13) ?hd (cs := #[.int .i64 a5_0, .slice A5_1 l5_1.length c5_1]) (t := 49) ?hr ?_; (case hd => rfl); (case hg => rfl); (case hr => first | (go_simp; done) | (go_simp; rfl)); intro gb193 hg w77 hbox hb; have n0_ := Aside0.mk (below_step bz_ hb); have n1_ := Aside0.mk (hbox); have n2_ := Aside0.mk ((hz_ hg : w.heap.size ≤ gb193)); have n3_ := Aside0.mk ((hz_ hg : w.heap.size ≤ gb193)); clear HB; have HB := n0_; have BK193 := n1_; have GW193 := n2_; have GE193 := n3_; clear n0_ n1_ n2_ n3_; clear hb hbox hg; have hcz78_0 : w77.cell? ⟨gb193, 0, none⟩ = some (.int .i64 a5_0) := (blk_cell BK193.out 0).trans rfl; have hcz78_1 : w77.cell? ⟨gb193, 1, none⟩ = some (.slice A5_1 l5_1.length c5_1) := (blk_cell BK193.out 1).trans rfl; have hfz78_0 := blk_frozen BK193.out 0; have hfz78_1 := blk_frozen BK193.out 1) | (go_at_call 94; (with_reducible refine (spec_l5First.calls k _ _ l0 a4 t201 _ ?side1 ?side2 A51.out).mono ?_); (case side1 => exact cy_ HR0.out HB.out); (case side2 => exact HC0.out); rintro e w' ⟨rfl, ⟨nd, rfl⟩⟩; (try exact dw_); have p202 : 0 ≤ (t201 : Int) := of_decide_eq_true az_; have q202 : t201 < (l1.length : Int) := of_decide_eq_true az_; obtain ⟨ad202, A202_0, c202_0, e202, hx202_0, hl202_0, hi202_0⟩ := at_L6 HR1.out t201 p202 q202; cases e202; replace hx202_0 := (HB.out.cell (World.block_lt_of_cell? w _ hx202_0)).trans hx202_0; have HR202_0 := Aside0.mk hi202_0; have HC202_0 := Aside0.mk hl202_0; clear hi202_0 hl202_0; replace p202 := eq_true p202; replace q202 := eq_true q202; have p203 : 0 ≤ ((ji54) : Int) := of_decide_eq_true az_; have q203 : (ji54) < (l1.length : Int) := of_decide_eq_true az_; obtain ⟨ad203, A203_0, c203_0, e203, hx203_0, hl203_0, hi203_0⟩ := at_L6 HR1.out (ji54) p203 q203; obtain rfl : ad202 = ad203 := (by injection e203); replace hx203_0 := (HB.out.cell (World.block_lt_of_cell? w _ hx203_0)).trans hx203_0; have HR203_0 := Aside0.mk hi203_0; have HC203_0 := Aside0.mk hl203_0; clear hi203_0 hl203_0; replace p203 := eq_true p203; replace q203 := eq_true q203; have p206 : 0 ≤ ((ji69) : Int) := of_decide_eq_true az_; have q206 : (ji69) < ((rd_L6 l1 t201).length : Int) := of_decide_eq_true az_; obtain ⟨ad206, e206, hx206_0⟩ := Kd.at_bool HR202_0.out (ji69) p206 q206; (try rw [← Nbq72.out] at hx206_0); cases e206; replace hx206_0 := (HB.out.cell (World.block_lt_of_cell? w _ hx206_0)).trans hx206_0; replace p206 := eq_true p206; replace q206 := eq_true q206))
              repeat (go_quiet (first | ((with_reducible refine gate_dst (N := 13) rfl ?_); refine box_event ?hg (N := 13) ?hd (cs := #[.int .i64 a5_0, .slice A5_1 l5_1.length c5_1]) (t := 49) ?hr ?_; (case hd => rfl); (case hg => rfl); (case hr => first | (go_simp; done) | (go_simp; rfl)); intro gb193 hg w77 hbox hb; have n0_ := Aside0.mk (below_step bz_ hb); have n1_ := Aside0.mk (hbox); have n2_ := Aside0.mk ((hz_ hg : w.heap.size ≤ gb193)); have n3_ := Aside0.mk ((hz_ hg : w.heap.size ≤ gb193)); clear HB; have HB := n0_; have BK193 := n1_; have GW193 := n2_; have GE193 := n3_; clear n0_ n1_ n2_ n3_; clear hb hbox hg; have hcz78_0 : w77.cell? ⟨gb193, 0, none⟩ = some (.int .i64 a5_0) := (blk_cell BK193.out 0).trans rfl; have hcz78_1 : w77.cell? ⟨gb193, 1, none⟩ = some (.slice A5_1 l5_1.length c5_1) := (blk_cell BK193.out 1).trans rfl; have hfz78_0 := blk_frozen BK193.out 0; have hfz78_1 := blk_frozen BK193.out 1) | (go_at_call 94; (with_reducible refine (spec_l5First.calls k _ _ l0 a4 t201 _ ?side1 ?side2 A51.out).mono ?_); (case side1 => exact cy_ HR0.out HB.out); (case side2 => exact HC0.out); rintro e w' ⟨rfl, ⟨nd, rfl⟩⟩; (try exact dw_); have p202 : 0 ≤ (t201 : Int) := of_decide_eq_true az_; have q202 : t201 < (l1.length : Int) := of_decide_eq_true az_; obtain ⟨ad202, A202_0, c202_0, e202, hx202_0, hl202_0, hi202_0⟩ := at_L6 HR1.out t201 p202 q202; cases e202; replace hx202_0 := (HB.out.cell (World.block_lt_of_cell? w _ hx202_0)).trans hx202_0; have HR202_0 := Aside0.mk hi202_0; have HC202_0 := Aside0.mk hl202_0; clear hi202_0 hl202_0; replace p202 := eq_true p202; replace q202 := eq_true q202; have p203 : 0 ≤ ((ji54) : Int) := of_decide_eq_true az_; have q203 : (ji54) < (l1.length : Int) := of_decide_eq_true az_; obtain ⟨ad203, A203_0, c203_0, e203, hx203_0, hl203_0, hi203_0⟩ := at_L6 HR1.out (ji54) p203 q203; obtain rfl : ad202 = ad203 := (by injection e203); replace hx203_0 := (HB.out.cell (World.block_lt_of_cell? w _ hx203_0)).trans hx203_0; have HR203_0 := Aside0.mk hi203_0; have HC203_0 := Aside0.mk hl203_0; clear hi203_0 hl203_0; replace p203 := eq_true p203; replace q203 := eq_true q203; have p206 : 0 ≤ ((ji69) : Int) := of_decide_eq_true az_; have q206 : (ji69) < ((rd_L6 l1 t201).length : Int) := of_decide_eq_true az_; obtain ⟨ad206, e206, hx206_0⟩ := Kd.at_bool HR202_0.out (ji69) p206 q206; (try rw [← Nbq72.out] at hx206_0); cases e206; replace hx206_0 := (HB.out.cell (World.block_lt_of_cell? w _ hx206_0)).trans hx206_0; replace p206 := eq_true p206; replace q206 := eq_true q206)); try go_wp2_with (first | ((with_reducible refine gate_dst (N := 13) rfl ?_); refine box_event ?hg (N := 13) ?hd (cs := #[.int .i64 a5_0, .slice A5_1 l5_1.length c5_1]) (t := 49) ?hr ?_; (case hd => rfl); (case hg => rfl); (case hr => first | (go_simp; done) | (go_simp; rfl)); intro gb193 hg w77 hbox hb; have n0_ := Aside0.mk (below_step bz_ hb); have n1_ := Aside0.mk (hbox); have n2_ := Aside0.mk ((hz_ hg : w.heap.size ≤ gb193)); have n3_ := Aside0.mk ((hz_ hg : w.heap.size ≤ gb193)); clear HB; have HB := n0_; have BK193 := n1_; have GW193 := n2_; have GE193 := n3_; clear n0_ n1_ n2_ n3_; clear hb hbox hg; have hcz78_0 : w77.cell? ⟨gb193, 0, none⟩ = some (.int .i64 a5_0) := (blk_cell BK193.out 0).trans rfl; have hcz78_1 : w77.cell? ⟨gb193, 1, none⟩ = some (.slice A5_1 l5_1.length c5_1) := (blk_cell BK193.out 1).trans rfl; have hfz78_0 := blk_frozen BK193.out 0; have hfz78_1 := blk_frozen BK193.out 1) | (go_at_call 94; (with_reducible refine (spec_l5First.calls k _ _ l0 a4 t201 _ ?side1 ?side2 A51.out).mono ?_); (case side1 => exact cy_ HR0.out HB.out); (case side2 => exact HC0.out); rintro e w' ⟨rfl, ⟨nd, rfl⟩⟩; (try exact dw_); have p202 : 0 ≤ (t201 : Int) := of_decide_eq_true az_; have q202 : t201 < (l1.length : Int) := of_decide_eq_true az_; obtain ⟨ad202, A202_0, c202_0, e202, hx202_0, hl202_0, hi202_0⟩ := at_L6 HR1.out t201 p202 q202; cases e202; replace hx202_0 := (HB.out.cell (World.block_lt_of_cell? w _ hx202_0)).trans hx202_0; have HR202_0 := Aside0.mk hi202_0; have HC202_0 := Aside0.mk hl202_0; clear hi202_0 hl202_0; replace p202 := eq_true p202; replace q202 := eq_true q202; have p203 : 0 ≤ ((ji54) : Int) := of_decide_eq_true az_; have q203 : (ji54) < (l1.length : Int) := of_decide_eq_true az_; obtain ⟨ad203, A203_0, c203_0, e203, hx203_0, hl203_0, hi203_0⟩ := at_L6 HR1.out (ji54) p203 q203; obtain rfl : ad202 = ad203 := (by injection e203); replace hx203_0 := (HB.out.cell (World.block_lt_of_cell? w _ hx203_0)).trans hx203_0; have HR203_0 := Aside0.mk hi203_0; have HC203_0 := Aside0.mk hl203_0; clear hi203_0 hl203_0; replace p203 := eq_true p203; replace q203 := eq_true q203; have p206 : 0 ≤ ((ji69) : Int) := of_decide_eq_true az_; have q206 : (ji69) < ((rd_L6 l1 t201).length : Int) := of_decide_eq_true az_; obtain ⟨ad206, e206, hx206_0⟩ := Kd.at_bool HR202_0.out (ji69) p206 q206; (try rw [← Nbq72.out] at hx206_0); cases e206; replace hx206_0 := (HB.out.cell (World.block_lt_of_cell? w _ hx206_0)).trans hx206_0; replace p206 := eq_true p206; replace q206 := eq_true q206)))
              go_ret
              exact ⟨by first | rfl | (simp [errW_none, errW_some] <;> rfl) | (simp only [← hji54, ← hji69]; first | rfl | (simp [errW_none, errW_some] <;> rfl)) | (simp [*, errW_none, errW_some] <;> rfl), bg_ GE193.out⟩
            ·rw [if_neg c71] at H
             exact absurd H (by simp)
           ·rw [if_neg c70] at H
            exact absurd H (by simp)
          ·rw [if_neg c68] at H
           have c68b0 := q3_ c68
           have c68b1 := q4_ c68
           have H' := Aside0.mk H
           clear H
           go_enter Try.func114, Try.ntmps114
           go_wp2_with (first | ((with_reducible refine gate_dst (N := 13) rfl ?_); refine box_event ?hg (N := 13) ?hd (cs := #[.int .i64 a5_0, .slice A5_1 l5_1.length c5_1]) (t := 49) ?hr ?_; (case hd => rfl); (case hg => rfl); (case hr => first | (go_simp; done) | (go_simp; rfl)); intro gb193 hg w79 hbox hb; have n0_ := Aside0.mk (below_step bz_ hb); have n1_ := Aside0.mk (hbox); have n2_ := Aside0.mk ((hz_ hg : w.heap.size ≤ gb193)); have n3_ := Aside0.mk ((hz_ hg : w.heap.size ≤ gb193)); clear HB; have HB := n0_; have BK193 := n1_; have GW193 := n2_; have GE193 := n3_; clear n0_ n1_ n2_ n3_; clear hb hbox hg; have hcz80_0 : w79.cell? ⟨gb193, 0, none⟩ = some (.int .i64 a5_0) := (blk_cell BK193.out 0).trans rfl; have hcz80_1 : w79.cell? ⟨gb193, 1, none⟩ = some (.slice A5_1 l5_1.length c5_1) := (blk_cell BK193.out 1).trans rfl; have hfz80_0 := blk_frozen BK193.out 0; have hfz80_1 := blk_frozen BK193.out 1) | (go_at_call 94; (with_reducible refine (spec_l5First.calls k _ _ l0 a4 t201 _ ?side1 ?side2 A51.out).mono ?_); (case side1 => exact cy_ HR0.out HB.out); (case side2 => exact HC0.out); rintro e w' ⟨rfl, ⟨nd, rfl⟩⟩; (try exact dw_); have p202 : 0 ≤ (t201 : Int) := of_decide_eq_true az_; have q202 : t201 < (l1.length : Int) := of_decide_eq_true az_; obtain ⟨ad202, A202_0, c202_0, e202, hx202_0, hl202_0, hi202_0⟩ := at_L6 HR1.out t201 p202 q202; cases e202; replace hx202_0 := (HB.out.cell (World.block_lt_of_cell? w _ hx202_0)).trans hx202_0; have HR202_0 := Aside0.mk hi202_0; have HC202_0 := Aside0.mk hl202_0; clear hi202_0 hl202_0; replace p202 := eq_true p202; replace q202 := eq_true q202; have p203 : 0 ≤ ((ji54) : Int) := of_decide_eq_true az_; have q203 : (ji54) < (l1.length : Int) := of_decide_eq_true az_; obtain ⟨ad203, A203_0, c203_0, e203, hx203_0, hl203_0, hi203_0⟩ := at_L6 HR1.out (ji54) p203 q203; obtain rfl : ad202 = ad203 := (by injection e203); replace hx203_0 := (HB.out.cell (World.block_lt_of_cell? w _ hx203_0)).trans hx203_0; have HR203_0 := Aside0.mk hi203_0; have HC203_0 := Aside0.mk hl203_0; clear hi203_0 hl203_0; replace p203 := eq_true p203; replace q203 := eq_true q203))
           repeat (go_quiet (first | ((with_reducible refine gate_dst (N := 13) rfl ?_); refine box_event ?hg (N := 13) ?hd (cs := #[.int .i64 a5_0, .slice A5_1 l5_1.length c5_1]) (t := 49) ?hr ?_; (case hd => rfl); (case hg => rfl); (case hr => first | (go_simp; done) | (go_simp; rfl)); intro gb193 hg w79 hbox hb; have n0_ := Aside0.mk (below_step bz_ hb); have n1_ := Aside0.mk (hbox); have n2_ := Aside0.mk ((hz_ hg : w.heap.size ≤ gb193)); have n3_ := Aside0.mk ((hz_ hg : w.heap.size ≤ gb193)); clear HB; have HB := n0_; have BK193 := n1_; have GW193 := n2_; have GE193 := n3_; clear n0_ n1_ n2_ n3_; clear hb hbox hg; have hcz80_0 : w79.cell? ⟨gb193, 0, none⟩ = some (.int .i64 a5_0) := (blk_cell BK193.out 0).trans rfl; have hcz80_1 : w79.cell? ⟨gb193, 1, none⟩ = some (.slice A5_1 l5_1.length c5_1) := (blk_cell BK193.out 1).trans rfl; have hfz80_0 := blk_frozen BK193.out 0; have hfz80_1 := blk_frozen BK193.out 1) | (go_at_call 94; (with_reducible refine (spec_l5First.calls k _ _ l0 a4 t201 _ ?side1 ?side2 A51.out).mono ?_); (case side1 => exact cy_ HR0.out HB.out); (case side2 => exact HC0.out); rintro e w' ⟨rfl, ⟨nd, rfl⟩⟩; (try exact dw_); have p202 : 0 ≤ (t201 : Int) := of_decide_eq_true az_; have q202 : t201 < (l1.length : Int) := of_decide_eq_true az_; obtain ⟨ad202, A202_0, c202_0, e202, hx202_0, hl202_0, hi202_0⟩ := at_L6 HR1.out t201 p202 q202; cases e202; replace hx202_0 := (HB.out.cell (World.block_lt_of_cell? w _ hx202_0)).trans hx202_0; have HR202_0 := Aside0.mk hi202_0; have HC202_0 := Aside0.mk hl202_0; clear hi202_0 hl202_0; replace p202 := eq_true p202; replace q202 := eq_true q202; have p203 : 0 ≤ ((ji54) : Int) := of_decide_eq_true az_; have q203 : (ji54) < (l1.length : Int) := of_decide_eq_true az_; obtain ⟨ad203, A203_0, c203_0, e203, hx203_0, hl203_0, hi203_0⟩ := at_L6 HR1.out (ji54) p203 q203; obtain rfl : ad202 = ad203 := (by injection e203); replace hx203_0 := (HB.out.cell (World.block_lt_of_cell? w _ hx203_0)).trans hx203_0; have HR203_0 := Aside0.mk hi203_0; have HC203_0 := Aside0.mk hl203_0; clear hi203_0 hl203_0; replace p203 := eq_true p203; replace q203 := eq_true q203)); try go_wp2_with (first | ((with_reducible refine gate_dst (N := 13) rfl ?_); refine box_event ?hg (N := 13) ?hd (cs := #[.int .i64 a5_0, .slice A5_1 l5_1.length c5_1]) (t := 49) ?hr ?_; (case hd => rfl); (case hg => rfl); (case hr => first | (go_simp; done) | (go_simp; rfl)); intro gb193 hg w79 hbox hb; have n0_ := Aside0.mk (below_step bz_ hb); have n1_ := Aside0.mk (hbox); have n2_ := Aside0.mk ((hz_ hg : w.heap.size ≤ gb193)); have n3_ := Aside0.mk ((hz_ hg : w.heap.size ≤ gb193)); clear HB; have HB := n0_; have BK193 := n1_; have GW193 := n2_; have GE193 := n3_; clear n0_ n1_ n2_ n3_; clear hb hbox hg; have hcz80_0 : w79.cell? ⟨gb193, 0, none⟩ = some (.int .i64 a5_0) := (blk_cell BK193.out 0).trans rfl; have hcz80_1 : w79.cell? ⟨gb193, 1, none⟩ = some (.slice A5_1 l5_1.length c5_1) := (blk_cell BK193.out 1).trans rfl; have hfz80_0 := blk_frozen BK193.out 0; have hfz80_1 := blk_frozen BK193.out 1) | (go_at_call 94; (with_reducible refine (spec_l5First.calls k _ _ l0 a4 t201 _ ?side1 ?side2 A51.out).mono ?_); (case side1 => exact cy_ HR0.out HB.out); (case side2 => exact HC0.out); rintro e w' ⟨rfl, ⟨nd, rfl⟩⟩; (try exact dw_); have p202 : 0 ≤ (t201 : Int) := of_decide_eq_true az_; have q202 : t201 < (l1.length : Int) := of_decide_eq_true az_; obtain ⟨ad202, A202_0, c202_0, e202, hx202_0, hl202_0, hi202_0⟩ := at_L6 HR1.out t201 p202 q202; cases e202; replace hx202_0 := (HB.out.cell (World.block_lt_of_cell? w _ hx202_0)).trans hx202_0; have HR202_0 := Aside0.mk hi202_0; have HC202_0 := Aside0.mk hl202_0; clear hi202_0 hl202_0; replace p202 := eq_true p202; replace q202 := eq_true q202; have p203 : 0 ≤ ((ji54) : Int) := of_decide_eq_true az_; have q203 : (ji54) < (l1.length : Int) := of_decide_eq_true az_; obtain ⟨ad203, A203_0, c203_0, e203, hx203_0, hl203_0, hi203_0⟩ := at_L6 HR1.out (ji54) p203 q203; obtain rfl : ad202 = ad203 := (by injection e203); replace hx203_0 := (HB.out.cell (World.block_lt_of_cell? w _ hx203_0)).trans hx203_0; have HR203_0 := Aside0.mk hi203_0; have HC203_0 := Aside0.mk hl203_0; clear hi203_0 hl203_0; replace p203 := eq_true p203; replace q203 := eq_true q203)))
           go_loopg [21] k (fun kq v21 w' => ∃ (x21_1 : Int), v21 = .int .i64 x21_1 ∧ Aside0 (spec_l5Cell.l1 kq a6 a7 (wrap64 ((l3.length : Int) + 1)) (rd_L6 l1 t201) (rd_L6 l1 (ji54)) x21_1 = some r) ∧ Aside0 (kq ≤ k) ∧ Aside0 (w'.heap[gb193]? = some (.cells #[.int .i64 a5_0, (.slice A5_1 l5_1.length c5_1)] 49 (0, 0))) ∧ Aside0 (Below w.heap.size w w'))
           case atStart => exact ⟨(a6), rs_, H', ⟨Nat.le_refl _⟩, ⟨by (with_reducible repeat (first | refine blk_drewN ?_ _ | refine blk_drew ?_ | refine blk_alloc ?_ _)); exact BK193.out⟩, ⟨bg_ GE193.out⟩⟩
           case round =>
            clear H'
            try clear c1
            try clear p1
            try clear q1
            try clear hx1
            try clear c2
            try clear p2
            try clear q2
            try clear hx2
            try clear c3
            try clear c4
            try clear q4
            try clear c5
            try clear c6
            try clear p6
            try clear q6
            try clear c7
            try clear q7
            try clear c9
            try clear c9b0
            try clear c9b1
            try clear c11
            try clear c12
            try clear c12b0
            try clear c12b1
            try clear c13
            try clear c13b0
            try clear c13b1
            try clear c14
            try clear c14b0
            try clear c15
            try clear c15b0
            try clear c19
            try clear p19
            try clear q19
            try clear hx19
            try clear c20
            try clear p20
            try clear q20
            try clear hx20
            try clear c21
            try clear c21b0
            try clear c21b1
            try clear c23
            try clear c23b0
            try clear c24
            try clear c24b0
            try clear c26
            try clear c26b0
            try clear c27
            try clear c27b0
            try clear c30
            try clear c30b0
            try clear c30b1
            try clear c31
            try clear c31b0
            try clear c31b1
            try clear c36
            try clear c36b0
            try clear c38
            try clear c38b0
            try clear c39
            try clear c39b0
            try clear c41
            try clear c41b0
            try clear c42
            try clear c42b0
            try clear q43
            try clear c44
            try clear c45
            try clear c45b0
            try clear c45b1
            try clear c47
            try clear c47b0
            try clear c48
            try clear c48b0
            try clear q49
            try clear c50
            try clear c52
            try clear c52b0
            try clear c53
            try clear c53b0
            try clear c55
            try clear c55b0
            try clear c56
            try clear c56b0
            try clear c57
            try clear c57b0
            try clear c57b1
            try clear c59
            try clear c59b0
            try clear c60
            try clear c60b0
            try clear q61
            try clear c62
            try clear p64
            try clear c65
            try clear c65b0
            try clear c68
            try clear c68b0
            try clear c68b1
            try clear c70
            try clear c70b0
            try clear c71
            try clear c71b0
            try clear q72
            try clear c73
            try clear c74
            try clear c74b0
            try clear hcz11_0
            try clear hcz11_1
            try clear hcz18_0
            try clear hcz18_1
            try clear hcz20_0
            try clear hcz20_1
            try clear hcz29_0
            try clear hcz29_1
            try clear hcz33_0
            try clear hcz33_1
            try clear hcz35_0
            try clear hcz35_1
            try clear hcz64_0
            try clear hcz64_1
            try clear hcz67_0
            try clear hcz67_1
            try clear hcz76_0
            try clear hcz76_1
            try clear hcz78_0
            try clear hcz78_1
            try clear hcz80_0
            try clear hcz80_1
            try clear hfz11_0
            try clear hfz11_1
            try clear hfz18_0
            try clear hfz18_1
            try clear hfz20_0
            try clear hfz20_1
            try clear hfz29_0
            try clear hfz29_1
            try clear hfz33_0
            try clear hfz33_1
            try clear hfz35_0
            try clear hfz35_1
            try clear hfz64_0
            try clear hfz64_1
            try clear hfz67_0
            try clear hfz67_1
            try clear hfz76_0
            try clear hfz76_1
            try clear hfz78_0
            try clear hfz78_1
            try clear hfz80_0
            try clear hfz80_1
            try clear hx194_0
            try clear hx196_0
            try clear hx197_0
            try clear hx198_0
            try clear hx199_0
            try clear hx200_0
            try clear hx202_0
            try clear hx203_0
            try clear hx204_0
            try clear hx205_0
            try clear hx206_0
            try clear hx207_0
            try clear p1
            try clear p19
            try clear p194
            try clear p196
            try clear p197
            try clear p198
            try clear p199
            try clear p2
            try clear p200
            try clear p202
            try clear p203
            try clear p204
            try clear p205
            try clear p206
            try clear p207
            try clear p6
            try clear q1
            try clear q19
            try clear q194
            try clear q196
            try clear q197
            try clear q198
            try clear q199
            try clear q200
            try clear q202
            try clear q203
            try clear q204
            try clear q205
            try clear q206
            try clear q207
            obtain ⟨x21_1, rfl, HA, HK1, BK193, HB⟩ := hrel
            cases gk with
            | zero => exact absurd HA.out (by simp [spec_l5Cell.l1])
            | succ k1 =>
             have H := HA.out
             clear HA
             simp only [spec_l5Cell.l1] at H
             by_cases c81 : x21_1 ≤ a7
             ·rw [if_pos c81] at H
              have c81b0 := decide_eq_true c81
              clear c81
              obtain ⟨ji82, hji82⟩ : ∃ j_ : Int, (wrap64 ((wrap64 (a6 * (wrap64 ((l3.length : Int) + 1)))) + x21_1)) = j_ := ⟨_, rfl⟩
              replace H : (if 0 ≤ (ji82) then (if (ji82) < ((rd_L6 l1 t201).length : Int) then (if rdOf false (rd_L6 l1 t201) (ji82) = true then (if 0 ≤ (wrap64 ((wrap64 (x21_1 * (wrap64 ((l3.length : Int) + 1)))) + a7)) then (if (wrap64 ((wrap64 (x21_1 * (wrap64 ((l3.length : Int) + 1)))) + a7)) < ((rd_L6 l1 (ji54)).length : Int) then (if rdOf false (rd_L6 l1 (ji54)) (wrap64 ((wrap64 (x21_1 * (wrap64 ((l3.length : Int) + 1)))) + a7)) = true then (some true) else (spec_l5Cell.l1 k1 a6 a7 (wrap64 ((l3.length : Int) + 1)) (rd_L6 l1 t201) (rd_L6 l1 (ji54)) (wrap64 (x21_1 + 1)))) else (none)) else (none)) else (spec_l5Cell.l1 k1 a6 a7 (wrap64 ((l3.length : Int) + 1)) (rd_L6 l1 t201) (rd_L6 l1 (ji54)) (wrap64 (x21_1 + 1)))) else (none)) else (none)) = some r := jz_ hji82 H
              have hji82w : (IntKind.i64.wrap ((wrap64 (a6 * (wrap64 ((l3.length : Int) + 1)))) + x21_1)) = ji82 := (i64_w _).trans hji82
              by_cases c83 : 0 ≤ (ji82)
              ·rw [if_pos c83] at H
               have c83b0 := decide_eq_true c83
               clear c83
               by_cases c84 : (ji82) < ((rd_L6 l1 t201).length : Int)
               ·rw [if_pos c84] at H
                have c84b0 := decide_eq_true c84
                clear c84
                obtain ⟨bq85, hbq85⟩ : ∃ b_ : Bool, b_ = (rdOf false (rd_L6 l1 t201) (ji82)) := ⟨_, rfl⟩
                replace H : (if bq85 = true then (if 0 ≤ (wrap64 ((wrap64 (x21_1 * (wrap64 ((l3.length : Int) + 1)))) + a7)) then (if (wrap64 ((wrap64 (x21_1 * (wrap64 ((l3.length : Int) + 1)))) + a7)) < ((rd_L6 l1 (ji54)).length : Int) then (if rdOf false (rd_L6 l1 (ji54)) (wrap64 ((wrap64 (x21_1 * (wrap64 ((l3.length : Int) + 1)))) + a7)) = true then (some true) else (spec_l5Cell.l1 k1 a6 a7 (wrap64 ((l3.length : Int) + 1)) (rd_L6 l1 t201) (rd_L6 l1 (ji54)) (wrap64 (x21_1 + 1)))) else (none)) else (none)) else (spec_l5Cell.l1 k1 a6 a7 (wrap64 ((l3.length : Int) + 1)) (rd_L6 l1 t201) (rd_L6 l1 (ji54)) (wrap64 (x21_1 + 1)))) = some r := by rw [← hbq85] at H; exact H
                have Nbq85 := Aside0.mk hbq85
                clear hbq85
                by_cases c86 : bq85 = true
                ·subst c86
                 have H1 := H
                 rw [if_pos rfl] at H1
                 clear H
                 have H := H1
                 clear H1
                 obtain ⟨ji87, hji87⟩ : ∃ j_ : Int, (wrap64 ((wrap64 (x21_1 * (wrap64 ((l3.length : Int) + 1)))) + a7)) = j_ := ⟨_, rfl⟩
                 replace H : (if 0 ≤ (ji87) then (if (ji87) < ((rd_L6 l1 (ji54)).length : Int) then (if rdOf false (rd_L6 l1 (ji54)) (ji87) = true then (some true) else (spec_l5Cell.l1 k1 a6 a7 (wrap64 ((l3.length : Int) + 1)) (rd_L6 l1 t201) (rd_L6 l1 (ji54)) (wrap64 (x21_1 + 1)))) else (none)) else (none)) = some r := jz_ hji87 H
                 have hji87w : (IntKind.i64.wrap ((wrap64 (x21_1 * (wrap64 ((l3.length : Int) + 1)))) + a7)) = ji87 := (i64_w _).trans hji87
                 by_cases c88 : 0 ≤ (ji87)
                 ·rw [if_pos c88] at H
                  have c88b0 := decide_eq_true c88
                  clear c88
                  by_cases c89 : (ji87) < ((rd_L6 l1 (ji54)).length : Int)
                  ·rw [if_pos c89] at H
                   have c89b0 := decide_eq_true c89
                   clear c89
                   obtain ⟨bq90, hbq90⟩ : ∃ b_ : Bool, b_ = (rdOf false (rd_L6 l1 (ji54)) (ji87)) := ⟨_, rfl⟩
                   replace H : (if bq90 = true then (some true) else (spec_l5Cell.l1 k1 a6 a7 (wrap64 ((l3.length : Int) + 1)) (rd_L6 l1 t201) (rd_L6 l1 (ji54)) (wrap64 (x21_1 + 1)))) = some r := by rw [← hbq90] at H; exact H
                   have Nbq90 := Aside0.mk hbq90
                   clear hbq90
                   by_cases c91 : bq90 = true
                   ·subst c91
                    have H1 := H
                    rw [if_pos rfl] at H1
                    clear H
                    have H := H1
                    clear H1
                    obtain rfl := Option.some.inj H
                    have p208 : 0 ≤ ((ji82) : Int) := of_decide_eq_true az_
                    have q208 : (ji82) < ((rd_L6 l1 t201).length : Int) := of_decide_eq_true az_
                    obtain ⟨ad208, e208, hx208_0⟩ := Kd.at_bool HR202_0.out (ji82) p208 q208
                    (try rw [← Nbq85.out] at hx208_0)
                    (try rw [← Nbq90.out] at hx208_0)
                    cases e208
                    replace hx208_0 := (HB.out.cell (World.block_lt_of_cell? w _ hx208_0)).trans hx208_0
                    replace p208 := eq_true p208
                    replace q208 := eq_true q208
                    have p209 : 0 ≤ ((ji87) : Int) := of_decide_eq_true az_
                    have q209 : (ji87) < ((rd_L6 l1 (ji54)).length : Int) := of_decide_eq_true az_
                    obtain ⟨ad209, e209, hx209_0⟩ := Kd.at_bool HR203_0.out (ji87) p209 q209
                    (try rw [← Nbq85.out] at hx209_0)
                    (try rw [← Nbq90.out] at hx209_0)
                    cases e209
                    replace hx209_0 := (HB.out.cell (World.block_lt_of_cell? w _ hx209_0)).trans hx209_0
                    replace p209 := eq_true p209
                    replace q209 := eq_true q209
                    go_wp2
                    repeat (go_quiet (fail); try go_wp2)
                    go_ret
                    exact ⟨by first | rfl | (simp [errW_none, errW_some] <;> rfl) | (simp only [← hji54, ← hji82, ← hji87]; first | rfl | (simp [errW_none, errW_some] <;> rfl)) | (simp [*, errW_none, errW_some] <;> rfl), bg_ GE193.out⟩
                   ·replace c91 := Bool.eq_false_iff.mpr c91
                    subst c91
                    have H1 := H
                    rw [if_neg (show ¬ (false = true) by decide)] at H1
                    clear H
                    have H := H1
                    clear H1
                    have H' := Aside0.mk H
                    clear H
                    have p208 : 0 ≤ ((ji82) : Int) := of_decide_eq_true az_
                    have q208 : (ji82) < ((rd_L6 l1 t201).length : Int) := of_decide_eq_true az_
                    obtain ⟨ad208, e208, hx208_0⟩ := Kd.at_bool HR202_0.out (ji82) p208 q208
                    (try rw [← Nbq85.out] at hx208_0)
                    (try rw [← Nbq90.out] at hx208_0)
                    cases e208
                    replace hx208_0 := (HB.out.cell (World.block_lt_of_cell? w _ hx208_0)).trans hx208_0
                    replace p208 := eq_true p208
                    replace q208 := eq_true q208
                    have p209 : 0 ≤ ((ji87) : Int) := of_decide_eq_true az_
                    have q209 : (ji87) < ((rd_L6 l1 (ji54)).length : Int) := of_decide_eq_true az_
                    obtain ⟨ad209, e209, hx209_0⟩ := Kd.at_bool HR203_0.out (ji87) p209 q209
                    (try rw [← Nbq85.out] at hx209_0)
                    (try rw [← Nbq90.out] at hx209_0)
                    cases e209
                    replace hx209_0 := (HB.out.cell (World.block_lt_of_cell? w _ hx209_0)).trans hx209_0
                    replace p209 := eq_true p209
                    replace q209 := eq_true q209
                    go_wp2
                    repeat (go_quiet (fail); try go_wp2)
                    go_roundg k1
                    case measure => have := HK1.out; omega
                    case rel => exact ⟨(wrap64 (x21_1 + 1)), rs_, H', ⟨by have := HK1.out; omega⟩, ⟨by (with_reducible repeat (first | refine blk_drewN ?_ _ | refine blk_drew ?_ | refine blk_alloc ?_ _)); exact BK193.out⟩, ⟨bg_ GE193.out⟩⟩
                  ·rw [if_neg c89] at H
                   exact absurd H (by simp)
                 ·rw [if_neg c88] at H
                  exact absurd H (by simp)
                ·replace c86 := Bool.eq_false_iff.mpr c86
                 subst c86
                 have H1 := H
                 rw [if_neg (show ¬ (false = true) by decide)] at H1
                 clear H
                 have H := H1
                 clear H1
                 have H' := Aside0.mk H
                 clear H
                 have p208 : 0 ≤ ((ji82) : Int) := of_decide_eq_true az_
                 have q208 : (ji82) < ((rd_L6 l1 t201).length : Int) := of_decide_eq_true az_
                 obtain ⟨ad208, e208, hx208_0⟩ := Kd.at_bool HR202_0.out (ji82) p208 q208
                 (try rw [← Nbq85.out] at hx208_0)
                 cases e208
                 replace hx208_0 := (HB.out.cell (World.block_lt_of_cell? w _ hx208_0)).trans hx208_0
                 replace p208 := eq_true p208
                 replace q208 := eq_true q208
                 go_wp2
                 repeat (go_quiet (fail); try go_wp2)
                 go_roundg k1
                 case measure => have := HK1.out; omega
                 case rel => exact ⟨(wrap64 (x21_1 + 1)), rs_, H', ⟨by have := HK1.out; omega⟩, ⟨by (with_reducible repeat (first | refine blk_drewN ?_ _ | refine blk_drew ?_ | refine blk_alloc ?_ _)); exact BK193.out⟩, ⟨bg_ GE193.out⟩⟩
               ·rw [if_neg c84] at H
                exact absurd H (by simp)
              ·rw [if_neg c83] at H
               exact absurd H (by simp)
             ·rw [if_neg c81] at H
              have c81b0 := decide_eq_false c81
              clear c81
              obtain rfl := Option.some.inj H
              go_wp2
              repeat (go_quiet (fail); try go_wp2)
              go_ret
              exact ⟨by first | rfl | (simp [errW_none, errW_some] <;> rfl) | (simp only [← hji54]; first | rfl | (simp [errW_none, errW_some] <;> rfl)) | (simp [*, errW_none, errW_some] <;> rfl), bg_ GE193.out⟩
        ·rw [if_neg c56] at H
         exact absurd H (by simp)
       ·rw [if_neg c55] at H
        exact absurd H (by simp)
      ·rw [if_neg c53] at H
       exact absurd H (by simp)
     ·rw [if_neg c52] at H
      exact absurd H (by simp)

end Go.Proofs.Ytlmpeaelpchokaa.HFnExactDerivRe
