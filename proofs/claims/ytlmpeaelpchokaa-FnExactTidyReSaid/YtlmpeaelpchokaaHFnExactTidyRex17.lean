/- Written by wip/pr.py of this session, for the law FnExactTidyRe: Lean functions with the answers of the program's, and the proofs of that; where the kit's print has no word, by hand. -/
import Derived.Test.YtlmpeaelpchokaaHFnExactTidyRex0
import Derived.Test.YtlmpeaelpchokaaHFnExactTidyRex16
namespace Go.Proofs.Ytlmpeaelpchokaa.HFnExactTidyRe
open Go.RowKit Go.Proofs.YtlmpeaelpchokaaW.PrintWords Go.Proofs.YtlmpeaelpchokaaW.PrintLast Go.Proofs.YtlmpeaelpchokaaW.PrintMore
attribute [local go_sem] max2_int min2_int max_two min_two max_three min_three max_four min_four   -- for this text's walks alone
set_option linter.unusedVariables false
set_option linter.unusedSimpArgs false

/-! ### impl_samePat: function 118 -/
def predO (k : Nat) (x y : S49) : Option Bool := if x.f0 = y.f0 then slices_Equal_int_int.f k x.f1 y.f1 else some false
def sameO (k : Nat) : List S49 → List S49 → Option Bool
  | [], [] => some true
  | x :: a, y :: b => (predO k x y).bind fun e => if e = true then sameO k a b else some false
  | _, _ => some false
theorem predO_mono (k : Nat) (x y : S49) : LeO (predO k x y) (predO (k + 1) x y) := by
  unfold predO
  refine LeO.ite (slices_Equal_int_int.mono _ _ _) (LeO.refl _)
theorem sameO_mono (k : Nat) : ∀ a b, LeO (sameO k a b) (sameO (k + 1) a b)
  | [], [] => LeO.refl _
  | x :: a, y :: b => LeO.bind (predO_mono k x y) (fun _ => LeO.ite (sameO_mono k a b) (LeO.refl _))
  | [], _ :: _ => LeO.refl _
  | _ :: _, [] => LeO.refl _
theorem sameO_len (k : Nat) : ∀ a b, sameO k a b = some true → a.length = b.length
  | [], [], _ => rfl
  | x :: a, y :: b, h => by
    simp only [sameO] at h
    obtain ⟨e, _, h2⟩ := Option.bind_eq_some_iff.1 h
    split at h2
    · simp [sameO_len k a b h2]
    · simp at h2
  | [], _ :: _, h => by simp [sameO] at h
  | _ :: _, [], h => by simp [sameO] at h
def impl_samePat.f (k : Nat) (l0 l1 : List S49) : Option Bool := sameO k l0 l1
theorem impl_samePat.mono : ∀ a0 a1 k, LeO (impl_samePat.f k a0 a1) (impl_samePat.f (k + 1) a0 a1) := fun a0 a1 k => sameO_mono k a0 a1
set_option maxHeartbeats 8000000 in
set_option maxRecDepth 100000 in
theorem samePat_pred (k : Nat) (W : World) (A1 : Option Addr) (c1 : Nat) (x : S49) (A2 : Option Addr) (c2 : Nat) (y : S49) (r : Bool) (hx : Kd.C (Kd.int .i64) W A1 x.f1.length x.f1) (hcx : x.f1.length ≤ c1) (hy : Kd.C (Kd.int .i64) W A2 y.f1.length y.f1) (hcy : y.f1.length ≤ c2) (h : predO k x y = some r) :
    Calls Try.prog 132 (#[.agg #[.int .i64 x.f0, .slice A1 x.f1.length c1], .agg #[.int .i64 y.f0, .slice A2 y.f1.length c2]] ++ #[]) W fun e w' => e = .returned (.bool r) ∧ Below W.heap.size W w' := by
  have hu49 := Try.underlying49
  obtain ⟨op, set⟩ := x
  obtain ⟨op2, set2⟩ := y
  unfold predO at h
  simp only at h hx hy hcx hcy
  show Calls Try.prog 132 #[.agg #[.int .i64 op, .slice A1 set.length c1], .agg #[.int .i64 op2, .slice A2 set2.length c2]] W _
  by_cases he : op = op2
  · rw [if_pos he] at h
    have hb : (op == op2) = true := by simpa using he
    have HE := Aside0.mk (fun (w : World) (hb : Below W.heap.size W w) => slices_Equal_int_int.calls k A1 c1 set A2 c2 set2 r w (Kd.C_below hx hb) hcx (Kd.C_below hy hb) hcy h)
    clear h hx hy hcx hcy he
    go_enter Try.func132, Try.ntmps132
    go_wp2_with (go_at_call 127; with_reducible refine (HE.out _ ?side).mono ?_; (case side => repeat (first | (with_reducible first | exact Below.refl _ _ | apply pw_below_drewN | apply below_drew1 | apply below_alloc))); rintro e w' ⟨rfl, ⟨nd, rfl⟩⟩)
    go_ret
    exact ⟨rfl, by repeat (first | (with_reducible first | exact Below.refl _ _ | apply pw_below_drewN | apply below_drew1 | apply below_alloc))⟩
  · rw [if_neg he] at h
    obtain rfl := Option.some.inj h
    have hb : (op == op2) = false := by simpa using he
    clear h hx hy hcx hcy he
    go_enter Try.func132, Try.ntmps132
    go_wp2
    go_ret
    exact ⟨rfl, by repeat (first | (with_reducible first | exact Below.refl _ _ | apply pw_below_drewN | apply below_drew1 | apply below_alloc))⟩
set_option maxHeartbeats 8000000 in
set_option maxRecDepth 100000 in
theorem equalFuncRe (k : Nat) (A0 : Option Addr) (c0 : Nat) (l0 : List S49) (A1 : Option Addr) (c1 : Nat) (l1 : List S49) (r : Bool) (w : World) (hr0 : Kd.C k49 w A0 l0.length l0) (hr1 : Kd.C k49 w A1 l1.length l1) (h : sameO k l0 l1 = some r) :
    Calls Try.prog 131 #[.slice A0 l0.length c0, .slice A1 l1.length c1, .func (.func 132) #[] #[]] w fun e w' => e = .returned (.bool r) ∧ Below w.heap.size w w' := by
  have hu49 := Try.underlying49
  have eg : ∀ args w, (callFunc 132 args).run Try.prog w = .ok (.enter 132 args) w := enters_of Try.func132 (by kernel_rfl) rfl
  have hbig : l0.length ≤ 9223372036854775807 := hr0.2.1
  by_cases hl : l0.length = l1.length
  · have hl1 : ((l0.length : Int) != (l1.length : Int)) = false := by simp [hl]
    have hl2 : (l0.length != l1.length) = false := by simp [hl]
    have HL := Aside0.mk hl
    have HR0 := Aside0.mk hr0
    have HR1 := Aside0.mk hr1
    have HH := Aside0.mk h
    clear hl hr0 hr1 h
    go_enter Try.func131, Try.ntmps131
    go_wp2
    go_loopg [17] l0.length (fun gg v17 wr => ∃ kk : Nat, kk ≤ l0.length ∧ l0.length - kk ≤ gg ∧ v17 = .int .i64 kk ∧ Aside0 (Below w.heap.size w wr) ∧ Aside0 (sameO k (l0.drop kk) (l1.drop kk) = some r))
    case atStart => exact ⟨0, Nat.zero_le _, by omega, rfl, ⟨Below.refl _ _⟩, HH⟩
    case round =>
      clear HH
      obtain ⟨kk, hkk, hg, rfl, HB, HA⟩ := hrel
      by_cases hlt : kk < l0.length
      · have hltz : (kk : Int) < (l0.length : Int) := by omega
        have hlt1 : kk < l1.length := by have := HL.out; omega
        have hltz1 : (kk : Int) < (l1.length : Int) := by omega
        obtain ⟨ad, Aj, cj, e0, hx0, hx1, hcj, hrow⟩ := at_T49 HR0.out (kk : Int) (by omega) hltz
        obtain ⟨ad2, Aj2, cj2, e2, hy0, hy1, hcj2, hrow2⟩ := at_T49 HR1.out (kk : Int) (by omega) hltz1
        subst e0 e2
        have ek : rd_T49 l0 (kk : Int) = l0[kk] := by unfold rd_T49; simp [List.getD_eq_getElem?_getD, hlt]
        have ek2 : rd_T49 l1 (kk : Int) = l1[kk] := by unfold rd_T49; simp [List.getD_eq_getElem?_getD, hlt1]
        rw [ek] at hx0 hx1 hcj hrow
        rw [ek2] at hy0 hy1 hcj2 hrow2
        clear ek ek2
        simp only [Int.toNat_natCast] at hx0 hx1 hy0 hy1
        replace hx0 := (HB.out.cell (World.block_lt_of_cell? w _ hx0)).trans hx0
        replace hx1 := (HB.out.cell (World.block_lt_of_cell? w _ hx1)).trans hx1
        replace hy0 := (HB.out.cell (World.block_lt_of_cell? w _ hy0)).trans hy0
        replace hy1 := (HB.out.cell (World.block_lt_of_cell? w _ hy1)).trans hy1
        have hby : Below wr.heap.size wr (wr.alloc (.cells #[.int .i64 l0[kk].f0, .slice Aj l0[kk].f1.length cj] 49)) := below_alloc (Below.refl _ _) _
        have hz0 := (hby.cell (World.block_lt_of_cell? wr _ hy0)).trans hy0
        have hz1 := (hby.cell (World.block_lt_of_cell? wr _ hy1)).trans hy1
        clear hby hy0 hy1
        have ha := HA.out
        rw [List.drop_eq_getElem_cons hlt, List.drop_eq_getElem_cons hlt1] at ha
        simp only [sameO] at ha
        obtain ⟨v, hv, ha⟩ := Option.bind_eq_some_iff.1 ha
        have HCALL := Aside0.mk (fun (W : World) (hb : Below wr.heap.size wr W) => (samePat_pred k W Aj cj l0[kk] Aj2 cj2 l1[kk] v (Kd.C_below hrow (HB.out.trans (hb.mono HB.out.size))) hcj (Kd.C_below hrow2 (HB.out.trans (hb.mono HB.out.size))) hcj2 hv).mono (fun e w' h => (⟨h.1, hb.trans (h.2.mono hb.size)⟩ : e = .returned (.bool v) ∧ Below wr.heap.size wr w')))
        clear hrow hcj hrow2 hcj2 hv HA
        cases v with
        | true =>
          rw [if_pos rfl] at ha
          have HA := Aside0.mk ha
          clear ha
          go_wp2_with fail
          refine (HCALL.out _ ?_).mono ?_
          · repeat (first | (with_reducible first | exact Below.refl _ _ | apply pw_below_drewN | apply below_drew1 | apply below_alloc))
          rintro e w' ⟨rfl, hb⟩
          have HB9 := Aside0.mk (HB.out.trans (hb.mono HB.out.size))
          clear hb
          go_wp2
          go_roundg (l0.length - (kk + 1))
          case measure => omega
          case rel => exact ⟨kk + 1, by omega, by omega, by go_num, HB9, HA⟩
        | false =>
          rw [if_neg (by simp)] at ha
          obtain rfl := Option.some.inj ha
          clear ha
          go_wp2_with fail
          refine (HCALL.out _ ?_).mono ?_
          · repeat (first | (with_reducible first | exact Below.refl _ _ | apply pw_below_drewN | apply below_drew1 | apply below_alloc))
          rintro e w' ⟨rfl, hb⟩
          have HB9 := Aside0.mk (HB.out.trans (hb.mono HB.out.size))
          clear hb
          go_wp2
          go_ret
          exact ⟨rfl, HB9.out⟩
      · have hk2 : kk = l0.length := by omega
        subst hk2
        have ha := HA.out
        rw [List.drop_of_length_le (Nat.le_refl _), List.drop_of_length_le (by have := HL.out; omega)] at ha
        obtain rfl := Option.some.inj (show some true = some r from ha)
        clear ha HA hlt
        go_wp2
        go_ret
        exact ⟨rfl, HB.out⟩
  · have hl1 : ((l0.length : Int) != (l1.length : Int)) = true := by simp; omega
    have hl2 : (l0.length != l1.length) = true := by simpa using hl
    have hr : r = false := by
      cases r with
      | false => rfl
      | true => exact absurd (sameO_len k l0 l1 h) hl
    subst hr
    clear hl hr0 hr1 h
    go_enter Try.func131, Try.ntmps131
    go_wp2
    go_ret
    exact ⟨rfl, by repeat (first | (with_reducible first | exact Below.refl _ _ | apply pw_below_drewN | apply below_drew1 | apply below_alloc))⟩
set_option maxHeartbeats 8000000 in
set_option maxRecDepth 100000 in
theorem impl_samePat.calls (k : Nat) (A0 : Option Addr) (c0 : Nat) (l0 : List S49) (A1 : Option Addr) (c1 : Nat) (l1 : List S49) (r : Bool) (w : World) (hr0 : Kd.C k49 w A0 l0.length l0) (hc0 : l0.length ≤ c0) (hr1 : Kd.C k49 w A1 l1.length l1) (hc1 : l1.length ≤ c1) (h : impl_samePat.f k l0 l1 = some r) :
    Calls Try.prog 118 #[.slice A0 l0.length c0, .slice A1 l1.length c1] w fun e w' => e = .returned (.bool r) ∧ Below w.heap.size w w' := by
  have HC := Aside0.mk (equalFuncRe k A0 c0 l0 A1 c1 l1 r w hr0 hr1 h)
  clear hr0 hr1 h
  go_enter Try.func118, Try.ntmps118
  go_wp2_with (go_at_call 131; refine HC.out.mono ?_; rintro e w' ⟨rfl, hb⟩)
  go_ret
  exact ⟨rfl, hb⟩

/-! ### impl_isNothing: function 116 -/
def impl_isNothing.f (k : Nat) (l0 : List (S49)) : Option (Bool) := (impl_nothing.f).bind fun t281 => ((impl_samePat.f k l0 t281).bind fun t284 => (some t284))
theorem impl_isNothing.mono : ∀ a0 k, LeO (impl_isNothing.f k a0) (impl_isNothing.f (k + 1) a0) := by
  intro a0 k
  unfold impl_isNothing.f
  repeat' first
      | (with_reducible exact impl_samePat.mono _ _ _)
      | (with_reducible exact LeO.refl _)
      | (with_reducible exact LeO.none _)
      | (with_reducible refine LeO.ite ?_ ?_)
      | (with_reducible refine LeO.bind ?_ (fun _ => ?_))
      | exact impl_samePat.mono _ _ _
      | exact LeO.none _
      | refine LeO.ite ?_ ?_
      | refine LeO.bind ?_ (fun _ => ?_)
set_option maxHeartbeats 8000000 in
set_option maxRecDepth 100000 in
theorem impl_isNothing.calls (k : Nat) (A0 : Option Addr) (c0 : Nat) (l0 : List (S49)) (r : Bool) (w : World) (hr0 : Kd.C k49 w A0 l0.length l0) (hc0 : l0.length ≤ c0) (h : impl_isNothing.f k l0 = some r) :
    Calls Try.prog 116 #[.slice A0 l0.length c0] w fun e w' => e = .returned (.bool r) ∧ Below w.heap.size w w' := by
  have HR0 := Aside0.mk hr0
  have HC0 := Aside0.mk hc0
  clear hr0 hc0
  have HB := Aside0.mk (Below.refl w.heap.size w)
  have H : ((impl_nothing.f).bind fun t281 => ((impl_samePat.f k l0 t281).bind fun t284 => (some t284))) = some r := h
  clear h
  replace H := Option.bind_eq_some_iff.mp H
  obtain ⟨t281, A20, H⟩ := H
  replace H : ((impl_samePat.f k l0 t281).bind fun t284 => (some t284)) = some r := H
  have A2 := Aside0.mk A20
  clear A20
  replace H := Option.bind_eq_some_iff.mp H
  obtain ⟨t284, A30, H⟩ := H
  replace H : (some t284) = some r := H
  have A3 := Aside0.mk A30
  clear A30
  obtain rfl := Option.some.inj H
  go_enter Try.func116, Try.ntmps116
  go_wp2_with (first | ((with_reducible refine gate_callee (f := 108) rfl ?_); refine goesL_ (some 4) rfl rfl Try.func108 (by kernel_rfl) rfl #[] rfl (by (try simp only [List.map_toArray, List.map_cons, List.map_nil]); first | done | rfl | (simp only [List.length_drop, List.length_take]; rfl)) ?_; (with_reducible refine (impl_nothing.calls  t281 _ A2.out).mono ?_); rintro e w4 ⟨v282, rfl, ho0, hb⟩; refine ⟨_, rfl, ?_⟩; have n0_ := Aside0.mk (Kd.S_lower ho0 (below_size (by repeat (first | (with_reducible first | exact HB.out | apply below_alloc | apply pw_below_drewN | apply below_drew1) | exact HB.out | exact Below.refl _ _)))); have n1_ := Aside0.mk (below_step (by repeat (first | (with_reducible first | exact HB.out | apply below_alloc | apply pw_below_drewN | apply below_drew1) | exact HB.out | exact Below.refl _ _)) hb); clear HB; have HO283 := n0_; have HB := n1_; clear n0_ n1_; (try clear hb); (try clear hb2); (try clear hk); (try clear hi); (try clear ho0); obtain ⟨Ao5, co5, eo5⟩ := Kd.S_slice HO283.out; subst eo5) | ((with_reducible refine gate_callee (f := 118) rfl ?_); refine goesL_ (some 5) rfl rfl Try.func118 (by kernel_rfl) rfl #[.slice A0 l0.length c0, .slice Ao5 t281.length co5] rfl (by (try simp only [List.map_toArray, List.map_cons, List.map_nil]); first | done | rfl | (simp only [List.length_drop, List.length_take]; rfl)) ?_; (with_reducible refine (impl_samePat.calls k _ _ l0 _ _ t281 t284 _ ?side1 ?side2 ?side3 ?side4 A3.out).mono ?_); (case side1 => repeat (first | exact (Kd.C_below HR0.out HB.out) | exact HR0.out | (with_reducible refine Kd.C_alloc ?_ _) | (with_reducible refine Kd.C_drewN ?_ _) | (with_reducible refine Kd.C_drew ?_))); (case side2 => exact HC0.out); (case side3 => repeat (first | exact (Kd.S_reads' HO283.out).2.2 | (with_reducible refine Kd.C_alloc ?_ _) | (with_reducible refine Kd.C_drewN ?_ _) | (with_reducible refine Kd.C_drew ?_))); (case side4 => exact (Kd.S_reads' HO283.out).2.1); rintro e w6 ⟨rfl, hb⟩; refine ⟨_, rfl, ?_⟩; have n0_ := Aside0.mk (Kd.S_below (by (with_reducible repeat (first | apply Kd.S_alloc | apply Kd.S_drewN | apply Kd.S_drew)); exact HO283.out) hb); have n1_ := Aside0.mk (below_step (by repeat (first | (with_reducible first | exact HB.out | apply below_alloc | apply pw_below_drewN | apply below_drew1) | exact HB.out | exact Below.refl _ _)) hb); clear HO283; clear HB; have HO283 := n0_; have HB := n1_; clear n0_ n1_; (try clear hb); (try clear hb2); (try clear hk); (try clear hi)))
  go_ret
  exact ⟨by first | rfl | (simp [errW_none, errW_some] <;> rfl) | (simp [*, errW_none, errW_some] <;> rfl), by repeat (first | (with_reducible first | exact HB.out | apply below_alloc | apply pw_below_drewN | apply below_drew1) | exact HB.out | exact Below.refl _ _)⟩

/-! ### impl_isNone: function 117 -/
def impl_isNone.f (k : Nat) (l0 : List (S49)) : Option (Bool) := (impl_none.f).bind fun t285 => ((impl_samePat.f k l0 t285).bind fun t288 => (some t288))
theorem impl_isNone.mono : ∀ a0 k, LeO (impl_isNone.f k a0) (impl_isNone.f (k + 1) a0) := by
  intro a0 k
  unfold impl_isNone.f
  repeat' first
      | (with_reducible exact impl_samePat.mono _ _ _)
      | (with_reducible exact LeO.refl _)
      | (with_reducible exact LeO.none _)
      | (with_reducible refine LeO.ite ?_ ?_)
      | (with_reducible refine LeO.bind ?_ (fun _ => ?_))
      | exact impl_samePat.mono _ _ _
      | exact LeO.none _
      | refine LeO.ite ?_ ?_
      | refine LeO.bind ?_ (fun _ => ?_)
set_option maxHeartbeats 8000000 in
set_option maxRecDepth 100000 in
theorem impl_isNone.calls (k : Nat) (A0 : Option Addr) (c0 : Nat) (l0 : List (S49)) (r : Bool) (w : World) (hr0 : Kd.C k49 w A0 l0.length l0) (hc0 : l0.length ≤ c0) (h : impl_isNone.f k l0 = some r) :
    Calls Try.prog 117 #[.slice A0 l0.length c0] w fun e w' => e = .returned (.bool r) ∧ Below w.heap.size w w' := by
  have HR0 := Aside0.mk hr0
  have HC0 := Aside0.mk hc0
  clear hr0 hc0
  have HB := Aside0.mk (Below.refl w.heap.size w)
  have H : ((impl_none.f).bind fun t285 => ((impl_samePat.f k l0 t285).bind fun t288 => (some t288))) = some r := h
  clear h
  replace H := Option.bind_eq_some_iff.mp H
  obtain ⟨t285, A20, H⟩ := H
  replace H : ((impl_samePat.f k l0 t285).bind fun t288 => (some t288)) = some r := H
  have A2 := Aside0.mk A20
  clear A20
  replace H := Option.bind_eq_some_iff.mp H
  obtain ⟨t288, A30, H⟩ := H
  replace H : (some t288) = some r := H
  have A3 := Aside0.mk A30
  clear A30
  obtain rfl := Option.some.inj H
  go_enter Try.func117, Try.ntmps117
  go_wp2_with (first | ((with_reducible refine gate_callee (f := 89) rfl ?_); refine goesL_ (some 4) rfl rfl Try.func89 (by kernel_rfl) rfl #[] rfl (by (try simp only [List.map_toArray, List.map_cons, List.map_nil]); first | done | rfl | (simp only [List.length_drop, List.length_take]; rfl)) ?_; (with_reducible refine (impl_none.calls  t285 _ A2.out).mono ?_); rintro e w4 ⟨v286, rfl, ho0, hb⟩; refine ⟨_, rfl, ?_⟩; have n0_ := Aside0.mk (Kd.S_lower ho0 (below_size (by repeat (first | (with_reducible first | exact HB.out | apply below_alloc | apply pw_below_drewN | apply below_drew1) | exact HB.out | exact Below.refl _ _)))); have n1_ := Aside0.mk (below_step (by repeat (first | (with_reducible first | exact HB.out | apply below_alloc | apply pw_below_drewN | apply below_drew1) | exact HB.out | exact Below.refl _ _)) hb); clear HB; have HO287 := n0_; have HB := n1_; clear n0_ n1_; (try clear hb); (try clear hb2); (try clear hk); (try clear hi); (try clear ho0); obtain ⟨Ao5, co5, eo5⟩ := Kd.S_slice HO287.out; subst eo5) | ((with_reducible refine gate_callee (f := 118) rfl ?_); refine goesL_ (some 5) rfl rfl Try.func118 (by kernel_rfl) rfl #[.slice A0 l0.length c0, .slice Ao5 t285.length co5] rfl (by (try simp only [List.map_toArray, List.map_cons, List.map_nil]); first | done | rfl | (simp only [List.length_drop, List.length_take]; rfl)) ?_; (with_reducible refine (impl_samePat.calls k _ _ l0 _ _ t285 t288 _ ?side1 ?side2 ?side3 ?side4 A3.out).mono ?_); (case side1 => repeat (first | exact (Kd.C_below HR0.out HB.out) | exact HR0.out | (with_reducible refine Kd.C_alloc ?_ _) | (with_reducible refine Kd.C_drewN ?_ _) | (with_reducible refine Kd.C_drew ?_))); (case side2 => exact HC0.out); (case side3 => repeat (first | exact (Kd.S_reads' HO287.out).2.2 | (with_reducible refine Kd.C_alloc ?_ _) | (with_reducible refine Kd.C_drewN ?_ _) | (with_reducible refine Kd.C_drew ?_))); (case side4 => exact (Kd.S_reads' HO287.out).2.1); rintro e w6 ⟨rfl, hb⟩; refine ⟨_, rfl, ?_⟩; have n0_ := Aside0.mk (Kd.S_below (by (with_reducible repeat (first | apply Kd.S_alloc | apply Kd.S_drewN | apply Kd.S_drew)); exact HO287.out) hb); have n1_ := Aside0.mk (below_step (by repeat (first | (with_reducible first | exact HB.out | apply below_alloc | apply pw_below_drewN | apply below_drew1) | exact HB.out | exact Below.refl _ _)) hb); clear HO287; clear HB; have HO287 := n0_; have HB := n1_; clear n0_ n1_; (try clear hb); (try clear hb2); (try clear hk); (try clear hi)))
  go_ret
  exact ⟨by first | rfl | (simp [errW_none, errW_some] <;> rfl) | (simp [*, errW_none, errW_some] <;> rfl), by repeat (first | (with_reducible first | exact HB.out | apply below_alloc | apply pw_below_drewN | apply below_drew1) | exact HB.out | exact Below.refl _ _)⟩

end Go.Proofs.Ytlmpeaelpchokaa.HFnExactTidyRe
