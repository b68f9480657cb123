/- Written by wip/pr.py of this session, for the law FnExactDerivRe: Lean functions with the answers of the program's, and the proofs of that; where the kit's print has no word, by hand. -/
import Derived.Test.YtlmpeaelpchokaaHFnExactDerivRex0
import Derived.Test.YtlmpeaelpchokaaHFnExactDerivRex2
import Derived.Test.YtlmpeaelpchokaaHFnExactDerivRex3
import Derived.Test.YtlmpeaelpchokaaHFnExactDerivRex5
namespace Go.Proofs.Ytlmpeaelpchokaa.HFnExactDerivRe
set_option maxHeartbeats 8000000
set_option maxRecDepth 100000
open Go.RowKit Go.Proofs.YtlmpeaelpchokaaW.PrintWords Go.Proofs.YtlmpeaelpchokaaW.PrintLast Go.Proofs.YtlmpeaelpchokaaW.PrintMore

set_option linter.unusedVariables false
set_option linter.unusedSimpArgs false

mutual
def spec_l5Table.l0 : Nat → List (S49) → List Int → Int → List (List Bool) → List (S49) → Int → Int → Option ((List (List Bool)))
 | 0, _, _, _, _, _, _, _ => none
 | k + 1, x0, x1, x5, x6, x15, x16, x17 => if x17 < x16 then (if 0 ≤ x17 then (if x17 < (x15.length : Int) then (if 0 ≤ (wrap64 (x5 * x5)) then (if (wrap64 (x5 * x5) : Int).toNat ≤ 281474976710656 then (spec_l5Table.l1 k x0 x1 x5 x6 x17 (List.replicate (wrap64 (x5 * x5) : Int).toNat false) (wrap64 (x5 - 1)) x15 x16 x17 ((rd_T49 x15 x17).f0) ((rd_T49 x15 x17).f1)) else (none)) else (none)) else (none)) else (none)) else (some x6)
def spec_l5Table.l1 : Nat → List (S49) → List Int → Int → List (List Bool) → Int → List Bool → Int → List (S49) → Int → Int → Int → List Int → Option ((List (List Bool)))
 | 0, _, _, _, _, _, _, _, _, _, _, _, _ => none
 | k + 1, x0, x1, x5, x6, x7, x9, x10, x15, x16, x17, x212000, x212001 => if x10 ≥ 0 then (spec_l5Table.l2 k x0 x1 x5 x6 x7 x9 x10 x10 x15 x16 x17 x212000 x212001) else (if x6.length < 5864062014805 then (spec_l5Table.l0 k x0 x1 x5 (x6 ++ [x9]) x15 x16 (wrap64 (x17 + 1))) else (none))
def spec_l5Table.l2 : Nat → List (S49) → List Int → Int → List (List Bool) → Int → List Bool → Int → Int → List (S49) → Int → Int → Int → List Int → Option ((List (List Bool)))
 | 0, _, _, _, _, _, _, _, _, _, _, _, _, _ => none
 | k + 1, x0, x1, x5, x6, x7, x9, x10, x11, x15, x16, x17, x212000, x212001 => if x11 < x5 then ((spec_l5Cell.f k x0 x6 x9 x1 x7 x212000 x212001 x10 x11).bind fun t218 => (if 0 ≤ (wrap64 ((wrap64 (x10 * x5)) + x11)) then (if (wrap64 ((wrap64 (x10 * x5)) + x11)) < (x9.length : Int) then (spec_l5Table.l2 k x0 x1 x5 x6 x7 (x9.set ((wrap64 ((wrap64 (x10 * x5)) + x11)) : Int).toNat t218) x10 (wrap64 (x11 + 1)) x15 x16 x17 x212000 x212001) else (none)) else (none))) else (spec_l5Table.l1 k x0 x1 x5 x6 x7 x9 (wrap64 (x10 - 1)) x15 x16 x17 x212000 x212001)
end
def spec_l5Table.f (k : Nat) (l0 : List (S49)) (l1 : List Int) : Option ((List (List Bool))) := spec_l5Table.l0 k l0 l1 (wrap64 ((l1.length : Int) + 1)) ([] : List (List Bool)) l0 (l0.length : Int) 0
theorem spec_l5Table.calls (k : Nat) (A0 : Option Addr) (c0 : Nat) (l0 : List (S49)) (A1 : Option Addr) (c1 : Nat) (l1 : List Int) (r : List (List Bool)) (w : World) (hr0 : Kd.C k49 w A0 l0.length l0) (hc0 : l0.length ≤ c0) (hr1 : Kd.C (Kd.int .i64) w A1 l1.length l1) (hc1 : l1.length ≤ c1) (h : spec_l5Table.f k l0 l1 = some r) :
  Calls Try.prog 91 #[.slice A0 l0.length c0, .slice A1 l1.length c1] w fun e w' => ∃ v0_ : Value, e = .returned (v0_) ∧ Kd.S (Kd.slice 4 Kd.bool) 81 w' w.heap.size (fun _ => True) v0_ r ∧ Below w.heap.size w w' := by
 have hu49 := Try.underlying49
 have HR0 := Aside0.mk hr0
 have HC0 := Aside0.mk hc0
 clear hr0 hc0
 have HR1 := Aside0.mk hr1
 have HC1 := Aside0.mk hc1
 clear hr1 hc1
 have HB := Aside0.mk (Below.refl w.heap.size w)
 have H : (spec_l5Table.l0 k l0 l1 (wrap64 ((l1.length : Int) + 1)) ([] : List (List Bool)) l0 (l0.length : Int) 0) = some r := h
 clear h
 have H' := Aside0.mk H
 clear H
 go_enter Try.func91, Try.ntmps91
 go_wp2
 go_loopg [6, 17] k (fun kq v6 v17 w' => ∃ (x6_1 : List (List Bool)) (x17_1 : Int), v17 = .int .i64 x17_1 ∧ Aside0 (spec_l5Table.l0 kq l0 l1 (wrap64 ((l1.length : Int) + 1)) x6_1 l0 (l0.length : Int) x17_1 = some r) ∧ Aside0 (kq ≤ k) ∧ Aside0 (Kd.S (Kd.slice 4 Kd.bool) 81 w' w.heap.size (fun _ => True) v6 x6_1) ∧ Aside0 (Below w.heap.size w w'))
 case atStart => exact ⟨(([] : List (List Bool))), (0), rs_, H', ⟨Nat.le_refl _⟩, ⟨by first | exact Kd.S_nil _ _ _ _ _ | exact Kd.N_nil _ _ _ _ _ | exact Kd.V_nil _ _ _ _ _ | exact Kd.R_nil _ _ _ _ _⟩, ⟨bz_⟩⟩
 case round =>
  clear H'
  try clear c1
  try clear p2
  obtain ⟨x6_1, x17_1, rfl, HA, HK1, HO_6, HB⟩ := hrel
  cases gk with
  | zero => exact absurd HA.out (by simp [spec_l5Table.l0])
  | succ k1 =>
   have H := HA.out
   clear HA
   simp only [spec_l5Table.l0] at H
   by_cases c3 : x17_1 < (l0.length : Int)
   ·rw [if_pos c3] at H
    have c3b0 := decide_eq_true c3
    clear c3
    by_cases c4 : 0 ≤ x17_1
    ·rw [if_pos c4] at H
     have c4b0 := decide_eq_true c4
     clear c4
     by_cases c5 : x17_1 < (l0.length : Int)
     ·rw [if_pos c5] at H
      have c5b0 := decide_eq_true c5
      clear c5
      obtain ⟨ji6, hji6⟩ : ∃ j_ : Int, (wrap64 ((wrap64 ((l1.length : Int) + 1)) * (wrap64 ((l1.length : Int) + 1)))) = j_ := ⟨_, rfl⟩
      replace H : (if 0 ≤ (ji6) then (if (ji6 : Int).toNat ≤ 281474976710656 then (spec_l5Table.l1 k1 l0 l1 (wrap64 ((l1.length : Int) + 1)) x6_1 x17_1 (List.replicate (ji6 : Int).toNat false) (wrap64 ((wrap64 ((l1.length : Int) + 1)) - 1)) l0 (l0.length : Int) x17_1 ((rd_T49 l0 x17_1).f0) ((rd_T49 l0 x17_1).f1)) else (none)) else (none)) = some r := jz_ hji6 H
      have hji6w : (IntKind.i64.wrap ((wrap64 ((l1.length : Int) + 1)) * (wrap64 ((l1.length : Int) + 1)))) = ji6 := (i64_w _).trans hji6
      by_cases c7 : 0 ≤ (ji6)
      ·rw [if_pos c7] at H
       have c7b0 := eq_true c7
       have c7b1 := decide_eq_true c7
       clear c7
       by_cases c8 : (ji6 : Int).toNat ≤ 281474976710656
       ·rw [if_pos c8] at H
        have c8b0 := eq_true c8
        have c8b1 := decide_eq_true c8
        clear c8
        obtain ⟨y212, hy212⟩ : ∃ y_ : List Bool, y_ = (List.replicate (ji6 : Int).toNat false) := ⟨_, rfl⟩
        replace H : (spec_l5Table.l1 k1 l0 l1 (wrap64 ((l1.length : Int) + 1)) x6_1 x17_1 y212 (wrap64 ((wrap64 ((l1.length : Int) + 1)) - 1)) l0 (l0.length : Int) x17_1 ((rd_T49 l0 x17_1).f0) ((rd_T49 l0 x17_1).f1)) = some r := yz_ hy212 H
        have Ny212 := Aside0.mk hy212
        clear hy212
        have H' := Aside0.mk H
        clear H
        have p210 : 0 ≤ (x17_1 : Int) := of_decide_eq_true az_
        have q210 : x17_1 < (l0.length : Int) := of_decide_eq_true az_
        obtain ⟨ad210, A210_1, c210_1, e210, hx210_0, hx210_1, hl210_1, hi210_1⟩ := at_T49 HR0.out x17_1 p210 q210
        cases e210
        replace hx210_0 := (HB.out.cell (World.block_lt_of_cell? w _ hx210_0)).trans hx210_0
        replace hx210_1 := (HB.out.cell (World.block_lt_of_cell? w _ hx210_1)).trans hx210_1
        have HR210_1 := Aside0.mk hi210_1
        have HC210_1 := Aside0.mk hl210_1
        clear hi210_1 hl210_1
        replace p210 := eq_true p210
        replace q210 := eq_true q210
        go_wp2_with (first | ((with_reducible refine gate_dst (N := 8) rfl ?_); refine box_event ?hg (N := 8) ?hd (cs := #[.int .i64 0, .slice none 0 0]) (t := 49) ?hr ?_; (case hd => rfl); (case hg => rfl); (case hr => first | (go_simp; done) | (go_simp; rfl)); intro gb211 hg w9 hbox hb; have n0_ := Aside0.mk (Kd.S_below (sz_ HO_6.out) hb); have n1_ := Aside0.mk (below_step bz_ hb); have n2_ := Aside0.mk (hbox); have n3_ := Aside0.mk ((hz_ hg : w.heap.size ≤ gb211)); have n4_ := Aside0.mk ((hz_ hg : w.heap.size ≤ gb211)); clear HO_6; clear HB; have HO_6 := n0_; have HB := n1_; have BK211 := n2_; have GW211 := n3_; have GE211 := n4_; clear n0_ n1_ n2_ n3_ n4_; clear hb hbox hg; have hcz10_0 : w9.cell? ⟨gb211, 0, none⟩ = some (.int .i64 0) := (blk_cell BK211.out 0).trans rfl; have hcz10_1 : w9.cell? ⟨gb211, 1, none⟩ = some (.slice none 0 0) := (blk_cell BK211.out 1).trans rfl; have hfz10_0 := blk_frozen BK211.out 0; have hfz10_1 := blk_frozen BK211.out 1) | ((with_reducible refine gate_dst (N := 25) rfl ?_); refine Kd.R_make Kd.bool _ 4 rfl (N := 25) rfl 81 _ _ rfl ji6 rfl rfl Try.underlying81 (.bool false) 1 info4 rfl (by decide) (by omega) false (ok := fun _ => True) (okp := fun _ => True) rfl (fun _ hk => hk) trivial (of_decide_eq_true az_) (Nat.le_trans (Nat.mul_le_mul_right _ (of_decide_eq_true az_ : ji6.toNat ≤ 281474976710656)) (by omega)) (Below.refl _ _) (Nat.le_refl _) ?_; intro v213 w11 ho12 hb hg_ hnew_; clear hg_ hnew_; (first | rw [← Ny212.out] at ho12 | (simp only [Int.reduceToNat] at ho12; rw [← Ny212.out] at ho12)); have n0_ := Aside0.mk (Kd.S_elder' (by (with_reducible repeat (first | apply Kd.S_alloc | apply Kd.S_drewN | apply Kd.S_drew)); exact (Kd.S_mono (Kd.S_far (p := ⟨gb211, 1, none⟩) (Kd.S_far (p := ⟨gb211, 0, none⟩) (Kd.S_types HO_6.out BK211.out (by decide)) (fun _ hk => hk.2) (.int .i64 ((rd_T49 l0 x17_1).f0))) (fun _ hk => hk.2) (.slice A210_1 ((rd_T49 l0 x17_1).f1).length c210_1)) (fun _ h_ => h_.1))) (Kd.R_base ho12) hb); have n1_ := Aside0.mk (Kd.R_lower ho12 (below_size (bg_ GE211.out))); have n2_ := Aside0.mk (blk_below (g := gb211) (o := .cells #[.int .i64 ((rd_T49 l0 x17_1).f0), .slice A210_1 ((rd_T49 l0 x17_1).f1).length c210_1] 49 (0, 0)) (by (with_reducible repeat (first | refine blk_drewN ?_ _ | refine blk_drew ?_ | refine blk_alloc ?_ _)); refine blk_put (cs := #[.int .i64 ((rd_T49 l0 x17_1).f0), .slice none 0 0]) ?_ 1 _ rfl; (with_reducible repeat (first | refine blk_drewN ?_ _ | refine blk_drew ?_ | refine blk_alloc ?_ _)); refine blk_put (cs := #[.int .i64 0, .slice none 0 0]) ?_ 0 _ rfl; (with_reducible repeat (first | refine blk_drewN ?_ _ | refine blk_drew ?_ | refine blk_alloc ?_ _)); exact BK211.out) hb); have n3_ := Aside0.mk (below_step (bg_ GE211.out) hb); clear HO_6; clear BK211; clear HB; have HO_6 := n0_; have HO214 := n1_; have BK211 := n2_; have HB := n3_; clear n0_ n1_ n2_ n3_; clear hb ho12))
        go_loopg [10] k1 (fun kq v10 w' => ∃ (x9_2 : List Bool) (x10_2 : Int), v10 = .int .i64 x10_2 ∧ Aside0 (spec_l5Table.l1 kq l0 l1 (wrap64 ((l1.length : Int) + 1)) x6_1 x17_1 x9_2 x10_2 l0 (l0.length : Int) x17_1 ((rd_T49 l0 x17_1).f0) ((rd_T49 l0 x17_1).f1) = some r) ∧ Aside0 (kq ≤ k1) ∧ Aside0 (Kd.S (Kd.slice 4 Kd.bool) 81 w' w.heap.size (fun k_ => some k_ ≠ (v213 : Value).ownBlock) u6 x6_1) ∧ Aside0 (Kd.R Kd.bool 4 w' w.heap.size (fun _ => True) v213 x9_2) ∧ Aside0 (w'.heap[gb211]? = some (.cells #[.int .i64 ((rd_T49 l0 x17_1).f0), (.slice A210_1 ((rd_T49 l0 x17_1).f1).length c210_1)] 49 (0, 0))) ∧ Aside0 (Below w.heap.size w w'))
        case atStart => exact ⟨(y212), (wrap64 ((wrap64 ((l1.length : Int) + 1)) - 1)), rs_, H', ⟨Nat.le_refl _⟩, ⟨by (with_reducible repeat (first | apply Kd.S_alloc | apply Kd.S_drewN | apply Kd.S_drew)); exact Kd.S_mono HO_6.out (fun _ hk => hk.2)⟩, ⟨by (with_reducible repeat (first | apply Kd.R_alloc | apply Kd.R_drewN | apply Kd.R_drew)); exact HO214.out⟩, ⟨by (with_reducible repeat (first | refine blk_drewN ?_ _ | refine blk_drew ?_ | refine blk_alloc ?_ _)); exact BK211.out⟩, ⟨bg_ GE211.out⟩⟩
        case round =>
         clear H'
         try clear c1
         try clear c2
         try clear p2
         try clear q2
         try clear hx2
         try clear c3
         try clear c3b0
         try clear c4
         try clear c4b0
         try clear c5
         try clear c5b0
         try clear p6
         try clear c7
         try clear c7b0
         try clear c7b1
         try clear c8
         try clear c8b0
         try clear c8b1
         try clear c9
         try clear hcz10_0
         try clear hcz10_1
         try clear hfz10_0
         try clear hfz10_1
         try clear hx210_0
         try clear hx210_1
         try clear p2
         try clear p210
         try clear q210
         obtain ⟨x9_2, x10_2, rfl, HA, HK2, HO_6, HO_9, BK211, HB⟩ := hrel
         cases gk with
         | zero => exact absurd HA.out (by simp [spec_l5Table.l1])
         | succ k2 =>
          have H := HA.out
          clear HA
          simp only [spec_l5Table.l1] at H
          by_cases c13 : x10_2 ≥ 0
          ·rw [if_pos c13] at H
           have c13b0 := decide_eq_true c13
           clear c13
           have H' := Aside0.mk H
           clear H
           go_wp2
           go_loopg [11] k2 (fun kq v11 w' => ∃ (x9_3 : List Bool) (x11_3 : Int), v11 = .int .i64 x11_3 ∧ Aside0 (spec_l5Table.l2 kq l0 l1 (wrap64 ((l1.length : Int) + 1)) x6_1 x17_1 x9_3 x10_2 x11_3 l0 (l0.length : Int) x17_1 ((rd_T49 l0 x17_1).f0) ((rd_T49 l0 x17_1).f1) = some r) ∧ Aside0 (kq ≤ k2) ∧ Aside0 (Kd.S (Kd.slice 4 Kd.bool) 81 w' w.heap.size (fun k_ => some k_ ≠ (v213 : Value).ownBlock) u6 x6_1) ∧ Aside0 (Kd.R Kd.bool 4 w' w.heap.size (fun _ => True) v213 x9_3) ∧ Aside0 (w'.heap[gb211]? = some (.cells #[.int .i64 ((rd_T49 l0 x17_1).f0), (.slice A210_1 ((rd_T49 l0 x17_1).f1).length c210_1)] 49 (0, 0))) ∧ Aside0 (Below w.heap.size w w'))
           case atStart => exact ⟨(x9_2), (x10_2), rs_, H', ⟨Nat.le_refl _⟩, ⟨by (with_reducible repeat (first | apply Kd.S_alloc | apply Kd.S_drewN | apply Kd.S_drew)); exact HO_6.out⟩, ⟨by (with_reducible repeat (first | apply Kd.R_alloc | apply Kd.R_drewN | apply Kd.R_drew)); exact HO_9.out⟩, ⟨by (with_reducible repeat (first | refine blk_drewN ?_ _ | refine blk_drew ?_ | refine blk_alloc ?_ _)); exact BK211.out⟩, ⟨bg_ GE211.out⟩⟩
           case round =>
            clear H'
            try clear c1
            try clear c2
            try clear p2
            try clear q2
            try clear hx2
            try clear c3
            try clear c3b0
            try clear c4
            try clear c4b0
            try clear c5
            try clear c5b0
            try clear p6
            try clear c7
            try clear c7b0
            try clear c7b1
            try clear c8
            try clear c8b0
            try clear c8b1
            try clear c9
            try clear c13
            try clear c13b0
            try clear hcz10_0
            try clear hcz10_1
            try clear hfz10_0
            try clear hfz10_1
            try clear hx210_0
            try clear hx210_1
            try clear p2
            try clear p210
            try clear p6
            try clear q2
            try clear q210
            obtain ⟨x9_3, x11_3, rfl, HA, HK3, HO_6, HO_9, BK211, HB⟩ := hrel
            cases gk with
            | zero => exact absurd HA.out (by simp [spec_l5Table.l2])
            | succ k3 =>
             have H := HA.out
             clear HA
             simp only [spec_l5Table.l2] at H
             by_cases c14 : x11_3 < (wrap64 ((l1.length : Int) + 1))
             ·rw [if_pos c14] at H
              have c14b0 := decide_eq_true c14
              clear c14
              replace H := Option.bind_eq_some_iff.mp H
              obtain ⟨t218, A150, H⟩ := H
              try dsimp only at H
              have A15 := Aside0.mk A150
              clear A150
              obtain ⟨ji16, hji16⟩ : ∃ j_ : Int, (wrap64 ((wrap64 (x10_2 * (wrap64 ((l1.length : Int) + 1)))) + x11_3)) = j_ := ⟨_, rfl⟩
              replace H : (if 0 ≤ (ji16) then (if (ji16) < (x9_3.length : Int) then (spec_l5Table.l2 k3 l0 l1 (wrap64 ((l1.length : Int) + 1)) x6_1 x17_1 (x9_3.set ((ji16) : Int).toNat t218) x10_2 (wrap64 (x11_3 + 1)) l0 (l0.length : Int) x17_1 ((rd_T49 l0 x17_1).f0) ((rd_T49 l0 x17_1).f1)) else (none)) else (none)) = some r := jz_ hji16 H
              (try rw [hji16] at A15)
              have hji16w : (IntKind.i64.wrap ((wrap64 (x10_2 * (wrap64 ((l1.length : Int) + 1)))) + x11_3)) = ji16 := (i64_w _).trans hji16
              by_cases c17 : 0 ≤ (ji16)
              ·rw [if_pos c17] at H
               have c17b0 := decide_eq_true c17
               clear c17
               by_cases c18 : (ji16) < (x9_3.length : Int)
               ·rw [if_pos c18] at H
                have c18b0 := decide_eq_true c18
                clear c18
                obtain ⟨y219, hy219⟩ : ∃ y_ : List Bool, y_ = (x9_3.set ((ji16) : Int).toNat t218) := ⟨_, rfl⟩
                replace H : (spec_l5Table.l2 k3 l0 l1 (wrap64 ((l1.length : Int) + 1)) x6_1 x17_1 y219 x10_2 (wrap64 (x11_3 + 1)) l0 (l0.length : Int) x17_1 ((rd_T49 l0 x17_1).f0) ((rd_T49 l0 x17_1).f1)) = some r := yz_ hy219 H
                have Ny219 := Aside0.mk hy219
                clear hy219
                have H' := Aside0.mk H
                clear H
                have hcz20_0 : wr.cell? ⟨gb211, 0, none⟩ = some (.int .i64 ((rd_T49 l0 x17_1).f0)) := (blk_cell BK211.out 0).trans rfl
                have hcz20_1 : wr.cell? ⟨gb211, 1, none⟩ = some (.slice A210_1 ((rd_T49 l0 x17_1).f1).length c210_1) := (blk_cell BK211.out 1).trans rfl
                have hfz20_0 := blk_frozen BK211.out 0
                have hfz20_1 := blk_frozen BK211.out 1
                obtain ⟨Ao21, co21, eo21⟩ := Kd.S_slice HO_6.out
                subst eo21
                obtain ⟨Ao22, co22, eo22⟩ := Kd.R_slice HO_9.out
                subst eo22
                go_wp2_with (first | ((with_reducible refine gate_callee (f := 114) rfl ?_); refine goesL_ (some 52) rfl rfl Try.func114 (by kernel_rfl) rfl #[.slice (some ad210) l0.length c0, .slice Ao21 x6_1.length co21, .slice Ao22 x9_3.length co22, .slice A1 l1.length c1, .int .i64 x17_1, .agg #[.int .i64 ((rd_T49 l0 x17_1).f0), .slice A210_1 ((rd_T49 l0 x17_1).f1).length c210_1], .int .i64 x10_2, .int .i64 x11_3] rfl mz_ ?_; (with_reducible refine (spec_l5Cell.calls k3 _ _ l0 _ _ x6_1 _ _ x9_3 _ _ l1 x17_1 ((rd_T49 l0 x17_1).f0) _ _ ((rd_T49 l0 x17_1).f1) x10_2 x11_3 t218 _ ?side1 ?side2 ?side3 ?side4 ?side5 ?side6 ?side7 ?side8 ?side9 ?side10 A15.out).mono ?_); (case side1 => exact cy_ HR0.out HB.out); (case side2 => exact HC0.out); (case side3 => repeat (first | exact (Kd.S_reads' HO_6.out).2.2 | (with_reducible refine Kd.C_alloc ?_ _) | (with_reducible refine Kd.C_drewN ?_ _) | (with_reducible refine Kd.C_drew ?_))); (case side4 => exact (Kd.S_reads' HO_6.out).2.1); (case side5 => repeat (first | exact (Kd.R_reads' HO_9.out).2.2 | (with_reducible refine Kd.C_alloc ?_ _) | (with_reducible refine Kd.C_drewN ?_ _) | (with_reducible refine Kd.C_drew ?_))); (case side6 => exact (Kd.R_reads' HO_9.out).2.1); (case side7 => exact cy_ HR1.out HB.out); (case side8 => exact HC1.out); (case side9 => exact cy_ HR210_1.out HB.out); (case side10 => exact HC210_1.out); rintro e w23 ⟨rfl, hb⟩; refine ⟨_, rfl, ?_⟩; have n0_ := Aside0.mk (Kd.S_below (sz_ HO_6.out) hb); have n1_ := Aside0.mk (Kd.R_below (rz_ HO_9.out) hb); have n2_ := Aside0.mk (blk_below (g := gb211) (o := .cells #[.int .i64 ((rd_T49 l0 x17_1).f0), .slice A210_1 ((rd_T49 l0 x17_1).f1).length c210_1] 49 (0, 0)) (kz_ BK211.out) hb); have n3_ := Aside0.mk (below_step (bg_ GE211.out) hb); clear HO_6; clear HO_9; clear BK211; clear HB; have HO_6 := n0_; have HO_9 := n1_; have BK211 := n2_; have HB := n3_; clear n0_ n1_ n2_ n3_; have p19 : 0 ≤ ((ji16) : Int) := of_decide_eq_true az_; have q19 : ((ji16) : Int) < ((x9_3.length : Int) : Int) := of_decide_eq_true az_; obtain ⟨go19, co19, eo19, gb19, gl19, cl19, HG19⟩ := Kd.R_form HO_9.out (by omega); (first | cases eo19 | (injection eo19 with ea_ en_ ec_; (first | subst ea_ | (injection ea_ with ea_; subst ea_)); subst ec_; clear en_)); have GB19 := Aside0.mk gb19; have GG19 := Aside0.mk HG19; clear gb19 gl19 HG19; obtain ⟨hx19_0, hf19_0⟩ := Kd.R_celln false HO_9.out ((ji16) : Int) p19 q19; replace p19 := eq_true p19; replace q19 := eq_true q19; obtain ⟨hy24_, hz24_⟩ := Kd.R_celln false HO_9.out ((ji16) : Int) (of_decide_eq_true az_) (of_decide_eq_true az_); have HP24 := Kd.R_putg HO_9.out ((ji16) : Int) t218) | ((with_reducible refine gate_store (t := 4) (p := 53) rfl ?_); refine store_event (t := 4) (p := 53) (v := ?vo_w25) (w1 := (w23.setCell ⟨go19, ((ji16) : Int).toNat, none⟩ (.bool t218))) ?hg ?ho ?hn ?hr ?_; (case ho => rfl); (case hg => rfl); (case hn => rfl); (case hr => first | (go_simp; done) | (go_simp; rfl)); intro w25 hw; have hg : w23.grownBy w25 (some go19) := (by rw [hw]; exact HP24.2); have hp_ : Kd.R Kd.bool 4 w25 w.heap.size (fun _ => True) (.slice (some ⟨go19, 0, none⟩) x9_3.length co22) y219 := (by rw [hw, Ny219.out]; exact HP24.1); clear HP24; have n0_ := Aside0.mk (Kd.S_after (v := (.slice (some ⟨go19, 0, none⟩) x9_3.length co22)) (v1 := (.slice (some ⟨go19, 0, none⟩) x9_3.length co22)) (ok := (fun _ => True)) (by (with_reducible repeat (first | apply Kd.S_alloc | apply Kd.S_drewN | apply Kd.S_drew)); exact Kd.S_mono HO_6.out (fun _ hk => ⟨trivial, (by first | exact hk | (intro e_; exact hk (e_.trans (by first | rfl | (simp only [Value.ownBlock]; done) | (unfold Value.ownBlock; split <;> simp_all))))) ⟩)) hg (.inl rfl)); have n1_ := Aside0.mk (hp_); have n2_ := Aside0.mk (blk_grown (g := gb211) (o := .cells #[.int .i64 ((rd_T49 l0 x17_1).f0), .slice A210_1 ((rd_T49 l0 x17_1).f1).length c210_1] 49 (0, 0)) (kz_ BK211.out) hg (Kd.R_ne HO_9.out BK211.out (by decide))); have n3_ := Aside0.mk ((by rw [hw]; exact below_set (HB.out) GB19.out : Below w.heap.size w w25)); clear HO_6; clear HO_9; clear BK211; clear HB; have HO_6 := n0_; have HO_9 := n1_; have BK211 := n2_; have HB := n3_; clear n0_ n1_ n2_ n3_; clear hg hw hp_))
                go_roundg k3
                case measure => have := HK1.out; have := HK2.out; have := HK3.out; omega
                case rel => exact ⟨(y219), (wrap64 (x11_3 + 1)), rs_, H', ⟨by have := HK1.out; have := HK2.out; have := HK3.out; omega⟩, ⟨by (with_reducible repeat (first | apply Kd.S_alloc | apply Kd.S_drewN | apply Kd.S_drew)); exact Kd.S_mono HO_6.out (fun _ hk => hk.2)⟩, ⟨by (with_reducible repeat (first | apply Kd.R_alloc | apply Kd.R_drewN | apply Kd.R_drew)); exact HO_9.out⟩, ⟨by (with_reducible repeat (first | refine blk_drewN ?_ _ | refine blk_drew ?_ | refine blk_alloc ?_ _)); exact BK211.out⟩, ⟨bg_ GE211.out⟩⟩
               ·rw [if_neg c18] at H
                exact absurd H (by simp)
              ·rw [if_neg c17] at H
               exact absurd H (by simp)
             ·rw [if_neg c14] at H
              have c14b0 := decide_eq_false c14
              clear c14
              have H' := Aside0.mk H
              clear H
              go_wp2
              go_roundg k3
              case measure => have := HK1.out; have := HK2.out; have := HK3.out; omega
              case rel => exact ⟨(x9_3), (wrap64 (x10_2 - 1)), rs_, H', ⟨by have := HK1.out; have := HK2.out; have := HK3.out; omega⟩, ⟨by (with_reducible repeat (first | apply Kd.S_alloc | apply Kd.S_drewN | apply Kd.S_drew)); exact HO_6.out⟩, ⟨by (with_reducible repeat (first | apply Kd.R_alloc | apply Kd.R_drewN | apply Kd.R_drew)); exact HO_9.out⟩, ⟨by (with_reducible repeat (first | refine blk_drewN ?_ _ | refine blk_drew ?_ | refine blk_alloc ?_ _)); exact BK211.out⟩, ⟨bg_ GE211.out⟩⟩
          ·rw [if_neg c13] at H
           have c13b0 := decide_eq_false c13
           clear c13
           by_cases c26 : x6_1.length < 5864062014805
           ·rw [if_pos c26] at H
            have LMc26 := Aside0.mk c26
            clear c26
            obtain ⟨y215, hy215⟩ : ∃ y_ : List (List Bool), y_ = (x6_1 ++ [x9_2]) := ⟨_, rfl⟩
            replace H : (spec_l5Table.l0 k2 l0 l1 (wrap64 ((l1.length : Int) + 1)) y215 l0 (l0.length : Int) (wrap64 (x17_1 + 1))) = some r := yz_ hy215 H
            have Ny215 := Aside0.mk hy215
            clear hy215
            have H' := Aside0.mk H
            clear H
            obtain ⟨Ao28, co28, eo28⟩ := Kd.R_slice HO_9.out
            subst eo28
            go_wp2_with (first | ((with_reducible refine gate_builtin (b := .append) (xs := #[.tmp 54, .tmp 56]) rfl ?_); at_builtin; refine Kd.S_append (Kd.slice 4 Kd.bool) (w0 := w) w.heap.size rfl (.tmp 54) (.tmp 56) 79 81 (.slice none 0 0) 24 rfl Try.underlying79 info81 rfl (by decide) (by omega) u6 x6_1 x9_2 [.slice Ao28 x9_2.length co28] (fun _ => True) (fun k_ => some k_ = (.slice Ao28 x9_2.length co28 : Value).ownBlock) rfl rfl ?aP (fun k_ hk_ => ((Kd.R_mono (ok' := fun k_ => ((fun _ => True)) k_ ∧ some k_ ≠ (u6 : Value).ownBlock) (Kd.R_apart' (HO_9.out) (Kd.S_typed HO_6.out) (by decide)) (fun k_ hk => ⟨trivial, hk.2⟩))).1 k_ hk_.symm) ?aF ?aO ?aB ?aS ?aL ?_; (case aP => exact Kd.M_row (Kd.R_mono (Kd.R_tight rfl (Kd.R_mono (ok' := fun k_ => ((fun _ => True)) k_ ∧ some k_ ≠ (u6 : Value).ownBlock) (Kd.R_apart' (HO_9.out) (Kd.S_typed HO_6.out) (by decide)) (fun k_ hk => ⟨trivial, hk.2⟩))) (fun _ h_ => h_))); (case aB => exact (bg_ GE211.out)); (case aF => exact (fun _ _ => trivial)); (case aO => exact (by (with_reducible repeat (first | apply Kd.S_alloc | apply Kd.S_drewN | apply Kd.S_drew)); exact Kd.S_mono HO_6.out (fun k_ hk => ⟨trivial, fun e_ => hk e_⟩))); (case aS => exact (below_size (bg_ GE211.out))); (case aL => have := LMc26.out; omega); intro v216 w27 ho hb hg hat; rw [← Ny215.out] at ho; have n0_ := Aside0.mk (blk_grown (g := gb211) (o := .cells #[.int .i64 ((rd_T49 l0 x17_1).f0), .slice A210_1 ((rd_T49 l0 x17_1).f1).length c210_1] 49 (0, 0)) (kz_ BK211.out) hg (Kd.S_ne HO_6.out BK211.out (by decide))); have n1_ := Aside0.mk (hb); have n2_ := Aside0.mk (ho); clear BK211; clear HB; clear HO_6; clear HO_9; have BK211 := n0_; have HB := n1_; have HO217 := n2_; clear n0_ n1_ n2_; clear ho hb hg hat))
            go_roundg k2
            case measure => have := HK1.out; have := HK2.out; omega
            case rel => exact ⟨(y215), (wrap64 (x17_1 + 1)), rs_, H', ⟨by have := HK1.out; have := HK2.out; omega⟩, ⟨by (with_reducible repeat (first | apply Kd.S_alloc | apply Kd.S_drewN | apply Kd.S_drew)); exact HO217.out⟩, ⟨bg_ GE211.out⟩⟩
           ·rw [if_neg c26] at H
            exact absurd H (by simp)
       ·rw [if_neg c8] at H
        exact absurd H (by simp)
      ·rw [if_neg c7] at H
       exact absurd H (by simp)
     ·rw [if_neg c5] at H
      exact absurd H (by simp)
    ·rw [if_neg c4] at H
     exact absurd H (by simp)
   ·rw [if_neg c3] at H
    have c3b0 := decide_eq_false c3
    (try rw [hl0_1] at c3b0)
    clear c3
    obtain rfl := Option.some.inj H
    go_wp2
    go_ret
    exact ⟨_, rr_, sz_ HO_6.out, bz_⟩

def spec_l5Matches.f (k : Nat) (l0 : List (S49)) (l1 : List Int) : Option (Bool) := (spec_l5Table.f k l0 l1).bind fun t220 => (if 0 ≤ (wrap64 ((l0.length : Int) - 1)) then (if (wrap64 ((l0.length : Int) - 1)) < (t220.length : Int) then (if 0 ≤ (l1.length : Int) then (if (l1.length : Int) < ((rd_L6 t220 (wrap64 ((l0.length : Int) - 1))).length : Int) then (some (rdOf false (rd_L6 t220 (wrap64 ((l0.length : Int) - 1))) (l1.length : Int))) else (none)) else (none)) else (none)) else (none))
theorem spec_l5Matches.calls (k : Nat) (A0 : Option Addr) (c0 : Nat) (l0 : List (S49)) (A1 : Option Addr) (c1 : Nat) (l1 : List Int) (r : Bool) (w : World) (hr0 : Kd.C k49 w A0 l0.length l0) (hc0 : l0.length ≤ c0) (hr1 : Kd.C (Kd.int .i64) w A1 l1.length l1) (hc1 : l1.length ≤ c1) (h : spec_l5Matches.f k l0 l1 = some r) :
  Calls Try.prog 61 #[.slice A0 l0.length c0, .slice A1 l1.length c1] w fun e w' => e = .returned (.bool r) ∧ Below w.heap.size w w' := by
 have HR0 := Aside0.mk hr0
 have HC0 := Aside0.mk hc0
 clear hr0 hc0
 have HR1 := Aside0.mk hr1
 have HC1 := Aside0.mk hc1
 clear hr1 hc1
 have HB := Aside0.mk (Below.refl w.heap.size w)
 have H : ((spec_l5Table.f k l0 l1).bind fun t220 => (if 0 ≤ (wrap64 ((l0.length : Int) - 1)) then (if (wrap64 ((l0.length : Int) - 1)) < (t220.length : Int) then (if 0 ≤ (l1.length : Int) then (if (l1.length : Int) < ((rd_L6 t220 (wrap64 ((l0.length : Int) - 1))).length : Int) then (some (rdOf false (rd_L6 t220 (wrap64 ((l0.length : Int) - 1))) (l1.length : Int))) else (none)) else (none)) else (none)) else (none))) = some r := h
 clear h
 replace H := Option.bind_eq_some_iff.mp H
 obtain ⟨t220, A30, H⟩ := H
 try dsimp only at H
 have A3 := Aside0.mk A30
 clear A30
 obtain ⟨ji4, hji4⟩ : ∃ j_ : Int, (wrap64 ((l0.length : Int) - 1)) = j_ := ⟨_, rfl⟩
 replace H : (if 0 ≤ (ji4) then (if (ji4) < (t220.length : Int) then (if 0 ≤ (l1.length : Int) then (if (l1.length : Int) < ((rd_L6 t220 (ji4)).length : Int) then (some (rdOf false (rd_L6 t220 (ji4)) (l1.length : Int))) else (none)) else (none)) else (none)) else (none)) = some r := jz_ hji4 H
 (try rw [hji4] at A3)
 have hji4w : (IntKind.i64.wrap ((l0.length : Int) - 1)) = ji4 := (i64_w _).trans hji4
 by_cases c5 : 0 ≤ (ji4)
 ·rw [if_pos c5] at H
  have c5b0 := decide_eq_true c5
  clear c5
  by_cases c6 : (ji4) < (t220.length : Int)
  ·rw [if_pos c6] at H
   have c6b0 := decide_eq_true c6
   clear c6
   by_cases c7 : 0 ≤ (l1.length : Int)
   ·rw [if_pos c7] at H
    have c7b0 := decide_eq_true c7
    have c7b1 : decide (0 ≤ l1.length) = true := decide_eq_true (by omega)
    clear c7
    by_cases c8 : (l1.length : Int) < ((rd_L6 t220 (ji4)).length : Int)
    ·rw [if_pos c8] at H
     have c8b0 := decide_eq_true c8
     have c8b1 : decide (l1.length < (rd_L6 t220 (ji4)).length) = true := decide_eq_true (Int.ofNat_lt.mp c8)
     clear c8
     obtain rfl := Option.some.inj H
     go_enter Try.func61, Try.ntmps61
     go_wp2_with (first | ((with_reducible refine gate_callee (f := 91) rfl ?_); refine goesL_ (some 8) rfl rfl Try.func91 (by kernel_rfl) rfl #[.slice A0 l0.length c0, .slice A1 l1.length c1] rfl mz_ ?_; (with_reducible refine (spec_l5Table.calls k _ _ l0 _ _ l1 t220 _ ?side1 ?side2 ?side3 ?side4 A3.out).mono ?_); (case side1 => repeat (first | exact HR0.out | (with_reducible refine Kd.C_alloc ?_ _) | (with_reducible refine Kd.C_drewN ?_ _) | (with_reducible refine Kd.C_drew ?_))); (case side2 => exact HC0.out); (case side3 => repeat (first | exact HR1.out | (with_reducible refine Kd.C_alloc ?_ _) | (with_reducible refine Kd.C_drewN ?_ _) | (with_reducible refine Kd.C_drew ?_))); (case side4 => exact HC1.out); rintro e w9 ⟨v221, rfl, ho0, hb⟩; refine ⟨_, rfl, ?_⟩; have n0_ := Aside0.mk (Kd.S_lower ho0 (below_size bz_)); have n1_ := Aside0.mk (below_step bz_ hb); clear HB; have HO222 := n0_; have HB := n1_; clear n0_ n1_; (try clear ho0); obtain ⟨Ao10, co10, eo10⟩ := Kd.S_slice HO222.out; subst eo10; have p223 : 0 ≤ ((ji4) : Int) := of_decide_eq_true az_; have q223 : (ji4) < (t220.length : Int) := of_decide_eq_true az_; obtain ⟨ad223, A223_0, c223_0, e223, hx223_0, hl223_0, hi223_0⟩ := at_L6 (Kd.S_reads' HO222.out).2.2 (ji4) p223 q223; cases e223; obtain ⟨ce223, hce223, hMe223, hcc223⟩ := Kd.S_get HO222.out [] (ji4) p223 (by first | exact q223 | exact of_decide_eq_true az_ | (have e_ := (Kd.S_reads' HO222.out).1; omega)); obtain ⟨ve223_0, rfl, ge223_0⟩ := hMe223; have hv223_0 := hcc223 0 _ rfl; rw [Nat.add_zero, show ((Kd.slice 4 Kd.bool)).sz = 1 from rfl, Nat.mul_one] at hv223_0; replace hv223_0 := Option.some.inj (hv223_0.symm.trans hx223_0); rw [hv223_0] at ge223_0; have HL223_0 := Aside0.mk (show Kd.R Kd.bool 4 _ _ _ _ (rd_L6 t220 (ji4)) from ge223_0); clear hv223_0 ge223_0; clear hcc223 hce223; have HR223_0 := Aside0.mk hi223_0; have HC223_0 := Aside0.mk hl223_0; clear hi223_0 hl223_0; replace p223 := eq_true p223; replace q223 := eq_true q223; have p224 : 0 ≤ ((l1.length : Int) : Int) := of_decide_eq_true az_; have q224 : (l1.length : Int) < ((rd_L6 t220 (ji4)).length : Int) := of_decide_eq_true az_; obtain ⟨ad224, e224, hx224_0⟩ := Kd.at_bool (by repeat (first | (with_reducible exact HR223_0.out) | (with_reducible refine Kd.C_alloc ?_ _) | (with_reducible refine Kd.C_drewN ?_ _) | (with_reducible refine Kd.C_drew ?_) | exact HR223_0.out)) (l1.length : Int) p224 q224; cases e224; (try simp only [Go.IntWalk.toNatUp] at hx224_0); replace p224 := eq_true p224; replace q224 := eq_true q224))
     go_ret
     exact ⟨by first | rfl | (simp [errW_none, errW_some] <;> rfl) | (simp only [← hji4]; first | rfl | (simp [errW_none, errW_some] <;> rfl)) | (simp [*, errW_none, errW_some] <;> rfl), bz_⟩
    ·rw [if_neg c8] at H
     exact absurd H (by simp)
   ·rw [if_neg c7] at H
    exact absurd H (by simp)
  ·rw [if_neg c6] at H
   exact absurd H (by simp)
 ·rw [if_neg c5] at H
  exact absurd H (by simp)

def spec_l5Part.f : Nat → List (S49) → Int → Option ((List (S49)))
 | 0, _, _ => none
 | k + 1, l0, a1 => if 0 ≤ a1 then (if a1 < (l0.length : Int) then ((spec_l5Arity.f k ((rd_T49 l0 a1).f0)).bind fun t226 => (if t226 = 1 then ((spec_l5Part.f k l0 (wrap64 (a1 - 1))).bind fun t227 => (if 0 ≤ (wrap64 (a1 - (t227.length : Int))) then (if (wrap64 (a1 - (t227.length : Int))) ≤ (wrap64 (a1 + 1)) then (if (wrap64 (a1 + 1)) ≤ (l0.length : Int) then ((spec_l5Own.f k ((l0.take ((wrap64 (a1 + 1)) : Int).toNat).drop ((wrap64 (a1 - (t227.length : Int))) : Int).toNat)).bind fun t234 => (some t234)) else (none)) else (none)) else (none))) else (if t226 = 2 then ((spec_l5First.f k l0 a1).bind fun t237 => ((spec_l5Part.f k l0 t237).bind fun t238 => (if 0 ≤ (wrap64 ((wrap64 (t237 - (t238.length : Int))) + 1)) then (if (wrap64 ((wrap64 (t237 - (t238.length : Int))) + 1)) ≤ (wrap64 (a1 + 1)) then (if (wrap64 (a1 + 1)) ≤ (l0.length : Int) then ((spec_l5Own.f k ((l0.take ((wrap64 (a1 + 1)) : Int).toNat).drop ((wrap64 ((wrap64 (t237 - (t238.length : Int))) + 1)) : Int).toNat)).bind fun t245 => (some t245)) else (none)) else (none)) else (none)))) else (if a1 ≤ (wrap64 (a1 + 1)) then (if (wrap64 (a1 + 1)) ≤ (l0.length : Int) then ((spec_l5Own.f k ((l0.take ((wrap64 (a1 + 1)) : Int).toNat).drop (a1 : Int).toNat)).bind fun t252 => (some t252)) else (none)) else (none))))) else (none)) else (none)
theorem spec_l5Part.calls (k : Nat) : ∀ (A0 : Option Addr) (c0 : Nat) (l0 : List (S49)) (a1 : Int) (r : List (S49)) (w : World) (hr0 : Kd.C k49 w A0 l0.length l0) (hc0 : l0.length ≤ c0) (h : spec_l5Part.f k l0 a1 = some r),
  Calls Try.prog 107 #[.slice A0 l0.length c0, .int .i64 a1] w fun e w' => ∃ v0_ : Value, e = .returned (v0_) ∧ Kd.S k49 49 w' w.heap.size (fun _ => True) v0_ r ∧ Below w.heap.size w w' := by
 induction k using Nat.strongRecOn with
 | _ k ih =>
 intro A0 c0 l0 a1 r w hr0 hc0 h
 cases k with
 | zero => exact absurd h (by simp [spec_l5Part.f])
 | succ k =>
 simp only [spec_l5Part.f] at h
 have HR0 := Aside0.mk hr0
 have HC0 := Aside0.mk hc0
 clear hr0 hc0
 have HB := Aside0.mk (Below.refl w.heap.size w)
 have H : (if 0 ≤ a1 then (if a1 < (l0.length : Int) then ((spec_l5Arity.f k ((rd_T49 l0 a1).f0)).bind fun t226 => (if t226 = 1 then ((spec_l5Part.f k l0 (wrap64 (a1 - 1))).bind fun t227 => (if 0 ≤ (wrap64 (a1 - (t227.length : Int))) then (if (wrap64 (a1 - (t227.length : Int))) ≤ (wrap64 (a1 + 1)) then (if (wrap64 (a1 + 1)) ≤ (l0.length : Int) then ((spec_l5Own.f k ((l0.take ((wrap64 (a1 + 1)) : Int).toNat).drop ((wrap64 (a1 - (t227.length : Int))) : Int).toNat)).bind fun t234 => (some t234)) else (none)) else (none)) else (none))) else (if t226 = 2 then ((spec_l5First.f k l0 a1).bind fun t237 => ((spec_l5Part.f k l0 t237).bind fun t238 => (if 0 ≤ (wrap64 ((wrap64 (t237 - (t238.length : Int))) + 1)) then (if (wrap64 ((wrap64 (t237 - (t238.length : Int))) + 1)) ≤ (wrap64 (a1 + 1)) then (if (wrap64 (a1 + 1)) ≤ (l0.length : Int) then ((spec_l5Own.f k ((l0.take ((wrap64 (a1 + 1)) : Int).toNat).drop ((wrap64 ((wrap64 (t237 - (t238.length : Int))) + 1)) : Int).toNat)).bind fun t245 => (some t245)) else (none)) else (none)) else (none)))) else (if a1 ≤ (wrap64 (a1 + 1)) then (if (wrap64 (a1 + 1)) ≤ (l0.length : Int) then ((spec_l5Own.f k ((l0.take ((wrap64 (a1 + 1)) : Int).toNat).drop (a1 : Int).toNat)).bind fun t252 => (some t252)) else (none)) else (none))))) else (none)) else (none)) = some r := h
 clear h
 by_cases c3 : 0 ≤ a1
 ·rw [if_pos c3] at H
  have c3b0 := decide_eq_true c3
  clear c3
  by_cases c4 : a1 < (l0.length : Int)
  ·rw [if_pos c4] at H
   have c4b0 := decide_eq_true c4
   clear c4
   replace H := Option.bind_eq_some_iff.mp H
   obtain ⟨t226, A50, H⟩ := H
   try dsimp only at H
   have A5 := Aside0.mk A50
   clear A50
   by_cases c6 : t226 = 1
   ·rw [if_pos c6] at H
    have c6b0 := q1_ c6
    have c6b1 := q2_ c6
    clear c6
    replace H := Option.bind_eq_some_iff.mp H
    obtain ⟨t227, A70, H⟩ := H
    try dsimp only at H
    have A7 := Aside0.mk A70
    clear A70
    obtain ⟨ji8, hji8⟩ : ∃ j_ : Int, (wrap64 (a1 - (t227.length : Int))) = j_ := ⟨_, rfl⟩
    replace H : (if 0 ≤ (ji8) then (if (ji8) ≤ (wrap64 (a1 + 1)) then (if (wrap64 (a1 + 1)) ≤ (l0.length : Int) then ((spec_l5Own.f k ((l0.take ((wrap64 (a1 + 1)) : Int).toNat).drop ((ji8) : Int).toNat)).bind fun t234 => (some t234)) else (none)) else (none)) else (none)) = some r := jz_ hji8 H
    (try rw [hji8] at A5)
    (try rw [hji8] at A7)
    have hji8w : (IntKind.i64.wrap (a1 - (t227.length : Int))) = ji8 := (i64_w _).trans hji8
    by_cases c9 : 0 ≤ (ji8)
    ·rw [if_pos c9] at H
     have c9b0 := eq_true c9
     have c9b1 := decide_eq_true c9
     clear c9
     by_cases c10 : (ji8) ≤ (wrap64 (a1 + 1))
     ·rw [if_pos c10] at H
      have c10b0 := eq_true c10
      have c10b1 := decide_eq_true c10
      by_cases c11 : (wrap64 (a1 + 1)) ≤ (l0.length : Int)
      ·rw [if_pos c11] at H
       have c11b0 := eq_true c11
       have c11b1 := decide_eq_true c11
       obtain ⟨y230, hy230⟩ : ∃ y_ : List (S49), y_ = ((l0.take ((wrap64 (a1 + 1)) : Int).toNat).drop ((ji8) : Int).toNat) := ⟨_, rfl⟩
       replace H : ((spec_l5Own.f k y230).bind fun t234 => (some t234)) = some r := yz_ hy230 H
       have Ny230 := Aside0.mk hy230
       clear hy230
       replace H := Option.bind_eq_some_iff.mp H
       obtain ⟨t234, A120, H⟩ := H
       try dsimp only at H
       have A12 := Aside0.mk A120
       clear A120
       obtain rfl := Option.some.inj H
       have p225 : 0 ≤ (a1 : Int) := of_decide_eq_true az_
       have q225 : a1 < (l0.length : Int) := of_decide_eq_true az_
       obtain ⟨ad225, A225_1, c225_1, e225, hx225_0, hx225_1, hl225_1, hi225_1⟩ := at_T49 HR0.out a1 p225 q225
       cases e225
       have HR225_1 := Aside0.mk hi225_1
       have HC225_1 := Aside0.mk hl225_1
       clear hi225_1 hl225_1
       replace p225 := eq_true p225
       replace q225 := eq_true q225
       go_enter Try.func107, Try.ntmps107
       go_wp2_with (first | ((with_reducible refine gate_callee (f := 81) rfl ?_); refine goesL_ (some 13) rfl rfl Try.func81 (by kernel_rfl) rfl #[.int .i64 ((rd_T49 l0 a1).f0)] rfl mz_ ?_; (with_reducible refine (spec_l5Arity.calls k ((rd_T49 l0 a1).f0) t226 _ A5.out).mono ?_); rintro e w' ⟨rfl, ⟨nd, rfl⟩⟩; refine ⟨_, rfl, ?_⟩) | ((with_reducible refine gate_callee (f := 107) rfl ?_); refine goesL_ (some 20) rfl rfl Try.func107 (by kernel_rfl) rfl #[.slice (some ad225) l0.length c0, .int .i64 (wrap64 (a1 - 1))] rfl mz_ ?_; (with_reducible refine (ih k (by omega) _ _ l0 (wrap64 (a1 - 1)) t227 _ ?side1 ?side2 A7.out).mono ?_); (case side1 => repeat (first | exact HR0.out | (with_reducible refine Kd.C_alloc ?_ _) | (with_reducible refine Kd.C_drewN ?_ _) | (with_reducible refine Kd.C_drew ?_))); (case side2 => exact HC0.out); rintro e w13 ⟨v228, rfl, ho0, hb⟩; refine ⟨_, rfl, ?_⟩; have n0_ := Aside0.mk (Kd.S_lower ho0 (below_size bz_)); have n1_ := Aside0.mk (below_step bz_ hb); clear HB; have HO229 := n0_; have HB := n1_; clear n0_ n1_; (try clear ho0); obtain ⟨Ao14, co14, eo14⟩ := Kd.S_slice HO229.out; subst eo14; have q15 : ((wrap64 (a1 + 1)) : Int) ≤ ((l0.length : Int) : Int) := of_decide_eq_true az_; obtain ⟨i015, hi015, _, hsz15, _⟩ := info_parts info49; have hroom15 : l0.length ≤ c0 := HC0.out; have hC15 : Kd.C k49 _ (some ad225) l0.length l0 := HR0.out; have ql15 : ((ji8) : Int) ≤ ((wrap64 (a1 + 1)) : Int) := of_decide_eq_true az_; have q015 : (0 : Int) ≤ ((ji8) : Int) := of_decide_eq_true az_; have hcut15 := cut_mid (P := Try.prog) 25 49 .i64 .i64 Try.underlying25 hi015 2 hsz15 (some ad225) l0.length c0 (ji8) (wrap64 (a1 + 1)) q015 ql15 q15 hroom15; have hr15 := Kd.C_mid (lo := ((ji8) : Int).toNat) (hi := ((wrap64 (a1 + 1)) : Int).toNat) (c := c0) hC15 (by omega) (by omega) hroom15; obtain ⟨A15, hA15⟩ : ∃ A1, A1 = (if c0 = ((ji8) : Int).toNat then (some ad225) else ((some ad225) : Option Addr).map (·.add (((ji8) : Int).toNat * 2))) := ⟨_, rfl⟩; obtain ⟨c15, hc15⟩ : ∃ c1, c1 = c0 - ((ji8) : Int).toNat := ⟨_, rfl⟩; have hy15 : y230.length = ((wrap64 (a1 + 1)) : Int).toNat - ((ji8) : Int).toNat := (by rw [Ny230.out, List.length_drop, List.length_take] <;> omega); rw [show ((l0).take ((wrap64 (a1 + 1)) : Int).toNat).drop ((ji8) : Int).toNat = y230 from Ny230.out.symm] at hr15; replace hr15 : Kd.C k49 _ A15 y230.length y230 := (by rw [hA15]; exact hr15); rw [← hy15, ← hA15, ← hc15] at hcut15; have HR233 := Aside0.mk hr15; have HC233 := Aside0.mk (show y230.length ≤ c15 from by rw [hy15, hc15]; exact Nat.sub_le_sub_right (Nat.le_trans (by omega) hroom15) _); clear hr15 hC15 hroom15 hi015 hsz15 hc15; have KY15 := Aside0.mk hy15; have KA15 := Aside0.mk hA15; clear hy15 hA15; replace q15 := eq_true q15) | ((with_reducible refine gate_callee (f := 65) rfl ?_); refine goesL_ (some 40) rfl rfl Try.func65 (by kernel_rfl) rfl #[.slice A15 y230.length c15] rfl mz_ ?_; (with_reducible refine (spec_l5Own.calls k _ _ y230 t234 _ ?side1 ?side2 A12.out).mono ?_); (case side1 => exact cy_ HR233.out HB.out); (case side2 => exact HC233.out); rintro e w16 ⟨v235, rfl, ho0, hb⟩; refine ⟨_, rfl, ?_⟩; have n0_ := Aside0.mk (Kd.S_elder' (sz_ HO229.out) (Kd.S_base ho0) hb); have n1_ := Aside0.mk (Kd.S_lower (Kd.S_new' ho0 (Kd.S_lt (sz_ HO229.out))) (below_size bz_)); have n2_ := Aside0.mk (below_step bz_ hb); clear HO229; clear HB; have HO229 := n0_; have HO236 := n1_; have HB := n2_; clear n0_ n1_ n2_; (try clear ho0)))
       go_ret
       exact ⟨_, by first | rfl | (simp [errW_none, errW_some] <;> rfl) | (simp only [← hji8]; first | rfl | (simp [errW_none, errW_some] <;> rfl)) | (simp [*, errW_none, errW_some] <;> rfl), by (with_reducible repeat (first | apply Kd.S_alloc | apply Kd.S_drewN | apply Kd.S_drew)); exact Kd.S_mono HO236.out (fun _ hk => trivial), bz_⟩
      ·rw [if_neg c11] at H
       exact absurd H (by simp)
     ·rw [if_neg c10] at H
      exact absurd H (by simp)
    ·rw [if_neg c9] at H
     exact absurd H (by simp)
   ·rw [if_neg c6] at H
    have c6b0 := q3_ c6
    have c6b1 := q4_ c6
    by_cases c17 : t226 = 2
    ·rw [if_pos c17] at H
     have c17b0 := q1_ c17
     have c17b1 := q2_ c17
     clear c17
     replace H := Option.bind_eq_some_iff.mp H
     obtain ⟨t237, A180, H⟩ := H
     try dsimp only at H
     have A18 := Aside0.mk A180
     clear A180
     replace H := Option.bind_eq_some_iff.mp H
     obtain ⟨t238, A190, H⟩ := H
     try dsimp only at H
     have A19 := Aside0.mk A190
     clear A190
     obtain ⟨ji20, hji20⟩ : ∃ j_ : Int, (wrap64 ((wrap64 (t237 - (t238.length : Int))) + 1)) = j_ := ⟨_, rfl⟩
     replace H : (if 0 ≤ (ji20) then (if (ji20) ≤ (wrap64 (a1 + 1)) then (if (wrap64 (a1 + 1)) ≤ (l0.length : Int) then ((spec_l5Own.f k ((l0.take ((wrap64 (a1 + 1)) : Int).toNat).drop ((ji20) : Int).toNat)).bind fun t245 => (some t245)) else (none)) else (none)) else (none)) = some r := jz_ hji20 H
     (try rw [hji20] at A5)
     (try rw [hji20] at A18)
     (try rw [hji20] at A19)
     have hji20w : (IntKind.i64.wrap ((wrap64 (t237 - (t238.length : Int))) + 1)) = ji20 := (i64_w _).trans hji20
     by_cases c21 : 0 ≤ (ji20)
     ·rw [if_pos c21] at H
      have c21b0 := eq_true c21
      have c21b1 := decide_eq_true c21
      clear c21
      by_cases c22 : (ji20) ≤ (wrap64 (a1 + 1))
      ·rw [if_pos c22] at H
       have c22b0 := eq_true c22
       have c22b1 := decide_eq_true c22
       by_cases c23 : (wrap64 (a1 + 1)) ≤ (l0.length : Int)
       ·rw [if_pos c23] at H
        have c23b0 := eq_true c23
        have c23b1 := decide_eq_true c23
        obtain ⟨y241, hy241⟩ : ∃ y_ : List (S49), y_ = ((l0.take ((wrap64 (a1 + 1)) : Int).toNat).drop ((ji20) : Int).toNat) := ⟨_, rfl⟩
        replace H : ((spec_l5Own.f k y241).bind fun t245 => (some t245)) = some r := yz_ hy241 H
        have Ny241 := Aside0.mk hy241
        clear hy241
        replace H := Option.bind_eq_some_iff.mp H
        obtain ⟨t245, A240, H⟩ := H
        try dsimp only at H
        have A24 := Aside0.mk A240
        clear A240
        obtain rfl := Option.some.inj H
        have p225 : 0 ≤ (a1 : Int) := of_decide_eq_true az_
        have q225 : a1 < (l0.length : Int) := of_decide_eq_true az_
        obtain ⟨ad225, A225_1, c225_1, e225, hx225_0, hx225_1, hl225_1, hi225_1⟩ := at_T49 HR0.out a1 p225 q225
        cases e225
        have HR225_1 := Aside0.mk hi225_1
        have HC225_1 := Aside0.mk hl225_1
        clear hi225_1 hl225_1
        replace p225 := eq_true p225
        replace q225 := eq_true q225
        go_enter Try.func107, Try.ntmps107
        go_wp2_with (first | ((with_reducible refine gate_callee (f := 81) rfl ?_); refine goesL_ (some 13) rfl rfl Try.func81 (by kernel_rfl) rfl #[.int .i64 ((rd_T49 l0 a1).f0)] rfl mz_ ?_; (with_reducible refine (spec_l5Arity.calls k ((rd_T49 l0 a1).f0) t226 _ A5.out).mono ?_); rintro e w' ⟨rfl, ⟨nd, rfl⟩⟩; refine ⟨_, rfl, ?_⟩) | ((with_reducible refine gate_callee (f := 94) rfl ?_); refine goesL_ (some 27) rfl rfl Try.func94 (by kernel_rfl) rfl #[.slice (some ad225) l0.length c0, .int .i64 a1] rfl mz_ ?_; (with_reducible refine (spec_l5First.calls k _ _ l0 a1 t237 _ ?side1 ?side2 A18.out).mono ?_); (case side1 => repeat (first | exact HR0.out | (with_reducible refine Kd.C_alloc ?_ _) | (with_reducible refine Kd.C_drewN ?_ _) | (with_reducible refine Kd.C_drew ?_))); (case side2 => exact HC0.out); rintro e w' ⟨rfl, ⟨nd, rfl⟩⟩; refine ⟨_, rfl, ?_⟩) | ((with_reducible refine gate_callee (f := 107) rfl ?_); refine goesL_ (some 31) rfl rfl Try.func107 (by kernel_rfl) rfl #[.slice (some ad225) l0.length c0, .int .i64 t237] rfl mz_ ?_; (with_reducible refine (ih k (by omega) _ _ l0 t237 t238 _ ?side1 ?side2 A19.out).mono ?_); (case side1 => repeat (first | exact HR0.out | (with_reducible refine Kd.C_alloc ?_ _) | (with_reducible refine Kd.C_drewN ?_ _) | (with_reducible refine Kd.C_drew ?_))); (case side2 => exact HC0.out); rintro e w25 ⟨v239, rfl, ho0, hb⟩; refine ⟨_, rfl, ?_⟩; have n0_ := Aside0.mk (Kd.S_lower ho0 (below_size bz_)); have n1_ := Aside0.mk (below_step bz_ hb); clear HB; have HO240 := n0_; have HB := n1_; clear n0_ n1_; (try clear ho0); obtain ⟨Ao26, co26, eo26⟩ := Kd.S_slice HO240.out; subst eo26; have q27 : ((wrap64 (a1 + 1)) : Int) ≤ ((l0.length : Int) : Int) := of_decide_eq_true az_; obtain ⟨i027, hi027, _, hsz27, _⟩ := info_parts info49; have hroom27 : l0.length ≤ c0 := HC0.out; have hC27 : Kd.C k49 _ (some ad225) l0.length l0 := HR0.out; have ql27 : ((ji20) : Int) ≤ ((wrap64 (a1 + 1)) : Int) := of_decide_eq_true az_; have q027 : (0 : Int) ≤ ((ji20) : Int) := of_decide_eq_true az_; have hcut27 := cut_mid (P := Try.prog) 25 49 .i64 .i64 Try.underlying25 hi027 2 hsz27 (some ad225) l0.length c0 (ji20) (wrap64 (a1 + 1)) q027 ql27 q27 hroom27; have hr27 := Kd.C_mid (lo := ((ji20) : Int).toNat) (hi := ((wrap64 (a1 + 1)) : Int).toNat) (c := c0) hC27 (by omega) (by omega) hroom27; obtain ⟨A27, hA27⟩ : ∃ A1, A1 = (if c0 = ((ji20) : Int).toNat then (some ad225) else ((some ad225) : Option Addr).map (·.add (((ji20) : Int).toNat * 2))) := ⟨_, rfl⟩; obtain ⟨c27, hc27⟩ : ∃ c1, c1 = c0 - ((ji20) : Int).toNat := ⟨_, rfl⟩; have hy27 : y241.length = ((wrap64 (a1 + 1)) : Int).toNat - ((ji20) : Int).toNat := (by rw [Ny241.out, List.length_drop, List.length_take] <;> omega); rw [show ((l0).take ((wrap64 (a1 + 1)) : Int).toNat).drop ((ji20) : Int).toNat = y241 from Ny241.out.symm] at hr27; replace hr27 : Kd.C k49 _ A27 y241.length y241 := (by rw [hA27]; exact hr27); rw [← hy27, ← hA27, ← hc27] at hcut27; have HR244 := Aside0.mk hr27; have HC244 := Aside0.mk (show y241.length ≤ c27 from by rw [hy27, hc27]; exact Nat.sub_le_sub_right (Nat.le_trans (by omega) hroom27) _); clear hr27 hC27 hroom27 hi027 hsz27 hc27; have KY27 := Aside0.mk hy27; have KA27 := Aside0.mk hA27; clear hy27 hA27; replace q27 := eq_true q27) | ((with_reducible refine gate_callee (f := 65) rfl ?_); refine goesL_ (some 40) rfl rfl Try.func65 (by kernel_rfl) rfl #[.slice A27 y241.length c27] rfl mz_ ?_; (with_reducible refine (spec_l5Own.calls k _ _ y241 t245 _ ?side1 ?side2 A24.out).mono ?_); (case side1 => exact cy_ HR244.out HB.out); (case side2 => exact HC244.out); rintro e w28 ⟨v246, rfl, ho0, hb⟩; refine ⟨_, rfl, ?_⟩; have n0_ := Aside0.mk (Kd.S_elder' (sz_ HO240.out) (Kd.S_base ho0) hb); have n1_ := Aside0.mk (Kd.S_lower (Kd.S_new' ho0 (Kd.S_lt (sz_ HO240.out))) (below_size bz_)); have n2_ := Aside0.mk (below_step bz_ hb); clear HO240; clear HB; have HO240 := n0_; have HO247 := n1_; have HB := n2_; clear n0_ n1_ n2_; (try clear ho0)))
        go_ret
        exact ⟨_, by first | rfl | (simp [errW_none, errW_some] <;> rfl) | (simp only [← hji20]; first | rfl | (simp [errW_none, errW_some] <;> rfl)) | (simp [*, errW_none, errW_some] <;> rfl), by (with_reducible repeat (first | apply Kd.S_alloc | apply Kd.S_drewN | apply Kd.S_drew)); exact Kd.S_mono HO247.out (fun _ hk => trivial), bz_⟩
       ·rw [if_neg c23] at H
        exact absurd H (by simp)
      ·rw [if_neg c22] at H
       exact absurd H (by simp)
     ·rw [if_neg c21] at H
      exact absurd H (by simp)
    ·rw [if_neg c17] at H
     have c17b0 := q3_ c17
     have c17b1 := q4_ c17
     have c29b0 := eq_true (of_decide_eq_true az_ : 0 ≤ a1)
     by_cases c30 : a1 ≤ (wrap64 (a1 + 1))
     ·rw [if_pos c30] at H
      have c30b0 := eq_true c30
      have c30b1 := decide_eq_true c30
      by_cases c31 : (wrap64 (a1 + 1)) ≤ (l0.length : Int)
      ·rw [if_pos c31] at H
       have c31b0 := eq_true c31
       have c31b1 := decide_eq_true c31
       obtain ⟨y248, hy248⟩ : ∃ y_ : List (S49), y_ = ((l0.take ((wrap64 (a1 + 1)) : Int).toNat).drop (a1 : Int).toNat) := ⟨_, rfl⟩
       replace H : ((spec_l5Own.f k y248).bind fun t252 => (some t252)) = some r := yz_ hy248 H
       have Ny248 := Aside0.mk hy248
       clear hy248
       replace H := Option.bind_eq_some_iff.mp H
       obtain ⟨t252, A320, H⟩ := H
       try dsimp only at H
       have A32 := Aside0.mk A320
       clear A320
       obtain rfl := Option.some.inj H
       have p225 : 0 ≤ (a1 : Int) := of_decide_eq_true az_
       have q225 : a1 < (l0.length : Int) := of_decide_eq_true az_
       obtain ⟨ad225, A225_1, c225_1, e225, hx225_0, hx225_1, hl225_1, hi225_1⟩ := at_T49 HR0.out a1 p225 q225
       cases e225
       have HR225_1 := Aside0.mk hi225_1
       have HC225_1 := Aside0.mk hl225_1
       clear hi225_1 hl225_1
       replace p225 := eq_true p225
       replace q225 := eq_true q225
       go_enter Try.func107, Try.ntmps107
       go_wp2_with (first | ((with_reducible refine gate_callee (f := 81) rfl ?_); refine goesL_ (some 13) rfl rfl Try.func81 (by kernel_rfl) rfl #[.int .i64 ((rd_T49 l0 a1).f0)] rfl mz_ ?_; (with_reducible refine (spec_l5Arity.calls k ((rd_T49 l0 a1).f0) t226 _ A5.out).mono ?_); rintro e w' ⟨rfl, ⟨nd, rfl⟩⟩; refine ⟨_, rfl, ?_⟩; have q33 : ((wrap64 (a1 + 1)) : Int) ≤ ((l0.length : Int) : Int) := of_decide_eq_true az_; obtain ⟨i033, hi033, _, hsz33, _⟩ := info_parts info49; have hroom33 : l0.length ≤ c0 := HC0.out; have hC33 : Kd.C k49 _ (some ad225) l0.length l0 := HR0.out; have ql33 : (a1 : Int) ≤ ((wrap64 (a1 + 1)) : Int) := of_decide_eq_true az_; have q033 : (0 : Int) ≤ (a1 : Int) := of_decide_eq_true az_; have hcut33 := cut_mid (P := Try.prog) 25 49 .i64 .i64 Try.underlying25 hi033 2 hsz33 (some ad225) l0.length c0 a1 (wrap64 (a1 + 1)) q033 ql33 q33 hroom33; have hr33 := Kd.C_mid (lo := (a1 : Int).toNat) (hi := ((wrap64 (a1 + 1)) : Int).toNat) (c := c0) hC33 (by omega) (by omega) hroom33; obtain ⟨A33, hA33⟩ : ∃ A1, A1 = (if c0 = (a1 : Int).toNat then (some ad225) else ((some ad225) : Option Addr).map (·.add ((a1 : Int).toNat * 2))) := ⟨_, rfl⟩; obtain ⟨c33, hc33⟩ : ∃ c1, c1 = c0 - (a1 : Int).toNat := ⟨_, rfl⟩; have hy33 : y248.length = ((wrap64 (a1 + 1)) : Int).toNat - (a1 : Int).toNat := (by rw [Ny248.out, List.length_drop, List.length_take] <;> omega); rw [show ((l0).take ((wrap64 (a1 + 1)) : Int).toNat).drop (a1 : Int).toNat = y248 from Ny248.out.symm] at hr33; replace hr33 : Kd.C k49 _ A33 y248.length y248 := (by rw [hA33]; exact hr33); rw [← hy33, ← hA33, ← hc33] at hcut33; have HR251 := Aside0.mk hr33; have HC251 := Aside0.mk (show y248.length ≤ c33 from by rw [hy33, hc33]; exact Nat.sub_le_sub_right (Nat.le_trans (by omega) hroom33) _); clear hr33 hC33 hroom33 hi033 hsz33 hc33; have KY33 := Aside0.mk hy33; have KA33 := Aside0.mk hA33; clear hy33 hA33; replace q33 := eq_true q33) | ((with_reducible refine gate_callee (f := 65) rfl ?_); refine goesL_ (some 40) rfl rfl Try.func65 (by kernel_rfl) rfl #[.slice A33 y248.length c33] rfl mz_ ?_; (with_reducible refine (spec_l5Own.calls k _ _ y248 t252 _ ?side1 ?side2 A32.out).mono ?_); (case side1 => repeat (first | exact HR251.out | (with_reducible refine Kd.C_alloc ?_ _) | (with_reducible refine Kd.C_drewN ?_ _) | (with_reducible refine Kd.C_drew ?_))); (case side2 => exact HC251.out); rintro e w34 ⟨v253, rfl, ho0, hb⟩; refine ⟨_, rfl, ?_⟩; have n0_ := Aside0.mk (Kd.S_lower ho0 (below_size bz_)); have n1_ := Aside0.mk (below_step bz_ hb); clear HB; have HO254 := n0_; have HB := n1_; clear n0_ n1_; (try clear ho0)))
       go_ret
       exact ⟨_, rr_, sz_ HO254.out, bz_⟩
      ·rw [if_neg c31] at H
       exact absurd H (by simp)
     ·rw [if_neg c30] at H
      exact absurd H (by simp)
  ·rw [if_neg c4] at H
   exact absurd H (by simp)
 ·rw [if_neg c3] at H
  exact absurd H (by simp)

end Go.Proofs.Ytlmpeaelpchokaa.HFnExactDerivRe
