/- Written by wip/pr.py of this session, for the law FnExactDerivRe: Lean functions with the answers of the program's, and the proofs of that; where the kit's print has no word, by hand. -/
import Derived.Test.YtlmpeaelpchokaaHFnExactDerivRex0
import Derived.Test.YtlmpeaelpchokaaHFnExactDerivRex9
namespace Go.Proofs.Ytlmpeaelpchokaa.HFnExactDerivRe
set_option maxHeartbeats 8000000
set_option maxRecDepth 100000
open Go.RowKit Go.Proofs.YtlmpeaelpchokaaW.PrintWords Go.Proofs.YtlmpeaelpchokaaW.PrintLast Go.Proofs.YtlmpeaelpchokaaW.PrintMore

set_option linter.unusedVariables false
set_option linter.unusedSimpArgs false

def slices_Equal_int_int.l0 : Nat → List Int → List Int → Int → Int → Option (Bool)
 | 0, _, _, _, _ => none
 | k + 1, x0, x1, x12, x13 => if x13 < x12 then (if 0 ≤ x13 then (if x13 < (x0.length : Int) then (if x13 < (x1.length : Int) then (if (rd x0 x13) = (rd x1 x13) then (slices_Equal_int_int.l0 k x0 x1 x12 (wrap64 (x13 + 1))) else (some false)) else (none)) else (none)) else (none)) else (some true)
def slices_Equal_int_int.f (k : Nat) (l0 : List Int) (l1 : List Int) : Option (Bool) := if (l0.length : Int) = (l1.length : Int) then (slices_Equal_int_int.l0 k l0 l1 (l0.length : Int) 0) else (some false)
theorem slices_Equal_int_int.mono_l : ∀ k, (∀ y0 y1 y2 y3, LeO (slices_Equal_int_int.l0 k y0 y1 y2 y3) (slices_Equal_int_int.l0 (k + 1) y0 y1 y2 y3))
 | 0 => fun _ _ _ _ r h => by simp [slices_Equal_int_int.l0] at h
 | k + 1 => by
  have ih0 := slices_Equal_int_int.mono_l k
  ·intro y0 y1 y2 y3
   unfold slices_Equal_int_int.l0
   repeat' first
   | (with_reducible exact ih0 _ _ _ _)
   | (with_reducible exact LeO.refl _)
   | (with_reducible exact LeO.none _)
   | (with_reducible refine LeO.ite ?_ ?_)
   | (with_reducible refine LeO.bind ?_ (fun _ => ?_))
   | exact ih0 _ _ _ _
   | exact LeO.none _
   | refine LeO.ite ?_ ?_
   | refine LeO.bind ?_ (fun _ => ?_)
theorem slices_Equal_int_int.mono : ∀ a0 a1 k, LeO (slices_Equal_int_int.f k a0 a1) (slices_Equal_int_int.f (k + 1) a0 a1) := by
 intro a0 a1 k
 have ih0 := slices_Equal_int_int.mono_l k
 unfold slices_Equal_int_int.f
 repeat' first
   | (with_reducible exact ih0 _ _ _ _)
   | (with_reducible exact LeO.refl _)
   | (with_reducible exact LeO.none _)
   | (with_reducible refine LeO.ite ?_ ?_)
   | (with_reducible refine LeO.bind ?_ (fun _ => ?_))
   | exact ih0 _ _ _ _
   | exact LeO.none _
   | refine LeO.ite ?_ ?_
   | refine LeO.bind ?_ (fun _ => ?_)
theorem slices_Equal_int_int.calls (k : Nat) (A0 : Option Addr) (c0 : Nat) (l0 : List Int) (A1 : Option Addr) (c1 : Nat) (l1 : List Int) (r : Bool) (w : World) (hr0 : Kd.C (Kd.int .i64) w A0 l0.length l0) (hc0 : l0.length ≤ c0) (hr1 : Kd.C (Kd.int .i64) w A1 l1.length l1) (hc1 : l1.length ≤ c1) (h : slices_Equal_int_int.f k l0 l1 = some r) :
  Calls Try.prog 127 #[.slice A0 l0.length c0, .slice A1 l1.length c1] w fun e w' => e = .returned (.bool r) ∧ Drawn0 w w' := by
 have HR0 := Aside0.mk hr0
 have HC0 := Aside0.mk hc0
 clear hr0 hc0
 have HR1 := Aside0.mk hr1
 have HC1 := Aside0.mk hc1
 clear hr1 hc1
 have H : (if (l0.length : Int) = (l1.length : Int) then (slices_Equal_int_int.l0 k l0 l1 (l0.length : Int) 0) else (some false)) = some r := h
 clear h
 by_cases c3 : (l0.length : Int) = (l1.length : Int)
 ·rw [if_pos c3] at H
  have c3b0 := q1_ c3
  have c3b1 := q2_ c3
  have c3b2 : (l0.length == l1.length) = true := by first | simpa using c3 | (simp at c3 ⊢; omega)
  clear c3
  have H' := Aside0.mk H
  clear H
  go_enter Try.func127, Try.ntmps127
  go_wp2
  repeat (go_quiet (fail); try go_wp2)
  go_loopg [13] k (fun kq v13 w' => ∃ (x13_1 : Int), v13 = .int .i64 x13_1 ∧ Aside0 (slices_Equal_int_int.l0 kq l0 l1 (l0.length : Int) x13_1 = some r) ∧ Aside0 (kq ≤ k) ∧ Drawn0 w w')
  case atStart => exact ⟨(0), rs_, H', ⟨Nat.le_refl _⟩, dr_⟩
  case round =>
   clear H'
   try clear c1
   try clear p2
   try clear c3
   try clear c3b0
   try clear c3b1
   try clear c3b2
   obtain ⟨x13_1, rfl, HA, HK1, ⟨m1, rfl⟩⟩ := hrel
   cases gk with
   | zero => exact absurd HA.out (by simp [slices_Equal_int_int.l0])
   | succ k1 =>
    have H := HA.out
    clear HA
    simp only [slices_Equal_int_int.l0] at H
    by_cases c4 : x13_1 < (l0.length : Int)
    ·rw [if_pos c4] at H
     have c4b0 := decide_eq_true c4
     clear c4
     by_cases c5 : 0 ≤ x13_1
     ·rw [if_pos c5] at H
      have c5b0 := decide_eq_true c5
      clear c5
      by_cases c6 : x13_1 < (l0.length : Int)
      ·rw [if_pos c6] at H
       have c6b0 := decide_eq_true c6
       clear c6
       by_cases c7 : x13_1 < (l1.length : Int)
       ·rw [if_pos c7] at H
        have c7b0 := decide_eq_true c7
        clear c7
        by_cases c8 : (rd l0 x13_1) = (rd l1 x13_1)
        ·rw [if_pos c8] at H
         have c8b0 := q1_ c8
         have c8b1 := q2_ c8
         clear c8
         have H' := Aside0.mk H
         clear H
         have p429 : 0 ≤ (x13_1 : Int) := of_decide_eq_true az_
         have q429 : x13_1 < (l0.length : Int) := of_decide_eq_true az_
         obtain ⟨ad429, e429, hx429_0⟩ := Kd.at_int HR0.out x13_1 p429 q429
         cases e429
         replace p429 := eq_true p429
         replace q429 := eq_true q429
         have p430 : 0 ≤ (x13_1 : Int) := of_decide_eq_true az_
         have q430 : x13_1 < (l1.length : Int) := of_decide_eq_true az_
         obtain ⟨ad430, e430, hx430_0⟩ := Kd.at_int HR1.out x13_1 p430 q430
         cases e430
         replace p430 := eq_true p430
         replace q430 := eq_true q430
         go_wp2
         repeat (go_quiet (fail); try go_wp2)
         go_roundg k1
         case measure => have := HK1.out; omega
         case rel => exact ⟨(wrap64 (x13_1 + 1)), rs_, H', ⟨by have := HK1.out; omega⟩, dr_⟩
        ·rw [if_neg c8] at H
         have c8b0 := q3_ c8
         have c8b1 := q4_ c8
         obtain rfl := Option.some.inj H
         have p429 : 0 ≤ (x13_1 : Int) := of_decide_eq_true az_
         have q429 : x13_1 < (l0.length : Int) := of_decide_eq_true az_
         obtain ⟨ad429, e429, hx429_0⟩ := Kd.at_int HR0.out x13_1 p429 q429
         cases e429
         replace p429 := eq_true p429
         replace q429 := eq_true q429
         have p430 : 0 ≤ (x13_1 : Int) := of_decide_eq_true az_
         have q430 : x13_1 < (l1.length : Int) := of_decide_eq_true az_
         obtain ⟨ad430, e430, hx430_0⟩ := Kd.at_int HR1.out x13_1 p430 q430
         cases e430
         replace p430 := eq_true p430
         replace q430 := eq_true q430
         go_wp2
         repeat (go_quiet (fail); try go_wp2)
         go_ret
         exact ⟨rs_, dr_⟩
       ·rw [if_neg c7] at H
        exact absurd H (by simp)
      ·rw [if_neg c6] at H
       exact absurd H (by simp)
     ·rw [if_neg c5] at H
      exact absurd H (by simp)
    ·rw [if_neg c4] at H
     have c4b0 := decide_eq_false c4
     (try rw [hl0_1] at c4b0)
     clear c4
     obtain rfl := Option.some.inj H
     go_wp2
     repeat (go_quiet (fail); try go_wp2)
     go_ret
     exact ⟨rs_, dr_⟩
 ·rw [if_neg c3] at H
  have c3b0 := q3_ c3
  have c3b1 := q4_ c3
  have c3b2 : (l0.length == l1.length) = false := by first | simpa using c3 | (simp at c3 ⊢; omega)
  obtain rfl := Option.some.inj H
  go_enter Try.func127, Try.ntmps127
  go_wp2
  repeat (go_quiet (fail); try go_wp2)
  go_ret
  exact ⟨rs_, dr_⟩

def predO (k : Nat) (x y : S49) : Option Bool := if x.f0 = y.f0 then slices_Equal_int_int.f k x.f1 y.f1 else some false
def sameO (k : Nat) : List S49 → List S49 → Option Bool
 | [], [] => some true
 | x :: a, y :: b => (predO k x y).bind fun e => if e = true then sameO k a b else some false
 | _, _ => some false
theorem predO_mono (k : Nat) (x y : S49) : LeO (predO k x y) (predO (k + 1) x y) := by
 unfold predO
 refine LeO.ite (slices_Equal_int_int.mono _ _ _) (LeO.refl _)
theorem sameO_mono (k : Nat) : ∀ a b, LeO (sameO k a b) (sameO (k + 1) a b)
 | [], [] => LeO.refl _
 | x :: a, y :: b => LeO.bind (predO_mono k x y) (fun _ => LeO.ite (sameO_mono k a b) (LeO.refl _))
 | [], _ :: _ => LeO.refl _
 | _ :: _, [] => LeO.refl _
theorem sameO_len (k : Nat) : ∀ a b, sameO k a b = some true → a.length = b.length
 | [], [], _ => rfl
 | x :: a, y :: b, h => by
  simp only [sameO] at h
  obtain ⟨e, _, h2⟩ := Option.bind_eq_some_iff.1 h
  split at h2
  ·simp [sameO_len k a b h2]
  ·simp at h2
 | [], _ :: _, h => by simp [sameO] at h
 | _ :: _, [], h => by simp [sameO] at h
def impl_samePat.f (k : Nat) (l0 l1 : List S49) : Option Bool := sameO k l0 l1
theorem samePat_pred (k : Nat) (W : World) (A1 : Option Addr) (c1 : Nat) (x : S49) (A2 : Option Addr) (c2 : Nat) (y : S49) (r : Bool) (hx : Kd.C (Kd.int .i64) W A1 x.f1.length x.f1) (hcx : x.f1.length ≤ c1) (hy : Kd.C (Kd.int .i64) W A2 y.f1.length y.f1) (hcy : y.f1.length ≤ c2) (h : predO k x y = some r) :
  Calls Try.prog 132 (#[.agg #[.int .i64 x.f0, .slice A1 x.f1.length c1], .agg #[.int .i64 y.f0, .slice A2 y.f1.length c2]] ++ #[]) W fun e w' => e = .returned (.bool r) ∧ Below W.heap.size W w' := by
 have hu49 := Try.underlying49
 obtain ⟨op, set⟩ := x
 obtain ⟨op2, set2⟩ := y
 unfold predO at h
 simp only at h hx hy hcx hcy
 show Calls Try.prog 132 #[.agg #[.int .i64 op, .slice A1 set.length c1], .agg #[.int .i64 op2, .slice A2 set2.length c2]] W _
 by_cases he : op = op2
 ·rw [if_pos he] at h
  have hb : (op == op2) = true := by simpa using he
  have HE := Aside0.mk (fun (w : World) (hb : Below W.heap.size W w) => slices_Equal_int_int.calls k A1 c1 set A2 c2 set2 r w (Kd.C_below hx hb) hcx (Kd.C_below hy hb) hcy h)
  clear h hx hy hcx hcy he
  go_enter Try.func132, Try.ntmps132
  go_wp2_with (go_at_call 127; with_reducible refine (HE.out _ ?side).mono ?_; (case side => exact be_); rintro e w' ⟨rfl, ⟨nd, rfl⟩⟩)
  go_ret
  exact ⟨rfl, be_⟩
 ·rw [if_neg he] at h
  obtain rfl := Option.some.inj h
  have hb : (op == op2) = false := by simpa using he
  clear h hx hy hcx hcy he
  go_enter Try.func132, Try.ntmps132
  go_wp2
  go_ret
  exact ⟨rfl, be_⟩
theorem equalFuncRe (k : Nat) (A0 : Option Addr) (c0 : Nat) (l0 : List S49) (A1 : Option Addr) (c1 : Nat) (l1 : List S49) (r : Bool) (w : World) (hr0 : Kd.C k49 w A0 l0.length l0) (hr1 : Kd.C k49 w A1 l1.length l1) (h : sameO k l0 l1 = some r) :
  Calls Try.prog 131 #[.slice A0 l0.length c0, .slice A1 l1.length c1, .func (.func 132) #[] #[]] w fun e w' => e = .returned (.bool r) ∧ Below w.heap.size w w' := by
 have hu49 := Try.underlying49
 have eg : ∀ args w, (callFunc 132 args).run Try.prog w = .ok (.enter 132 args) w := enters_of Try.func132 (by kernel_rfl) rfl
 have hbig : l0.length ≤ 9223372036854775807 := hr0.2.1
 by_cases hl : l0.length = l1.length
 ·have hl1 : ((l0.length : Int) != (l1.length : Int)) = false := by simp [hl]
  have hl2 : (l0.length != l1.length) = false := by simp [hl]
  have HL := Aside0.mk hl
  have HR0 := Aside0.mk hr0
  have HR1 := Aside0.mk hr1
  have HH := Aside0.mk h
  clear hl hr0 hr1 h
  go_enter Try.func131, Try.ntmps131
  go_wp2
  go_loopg [17] l0.length (fun gg v17 wr => ∃ kk : Nat, kk ≤ l0.length ∧ l0.length - kk ≤ gg ∧ v17 = .int .i64 kk ∧ Aside0 (Below w.heap.size w wr) ∧ Aside0 (sameO k (l0.drop kk) (l1.drop kk) = some r))
  case atStart => exact ⟨0, Nat.zero_le _, by omega, rfl, ⟨Below.refl _ _⟩, HH⟩
  case round =>
   clear HH
   obtain ⟨kk, hkk, hg, rfl, HB, HA⟩ := hrel
   by_cases hlt : kk < l0.length
   ·have hltz : (kk : Int) < (l0.length : Int) := by omega
    have hlt1 : kk < l1.length := by have := HL.out; omega
    have hltz1 : (kk : Int) < (l1.length : Int) := by omega
    obtain ⟨ad, Aj, cj, e0, hx0, hx1, hcj, hrow⟩ := at_T49 HR0.out (kk : Int) (by omega) hltz
    obtain ⟨ad2, Aj2, cj2, e2, hy0, hy1, hcj2, hrow2⟩ := at_T49 HR1.out (kk : Int) (by omega) hltz1
    subst e0 e2
    have ek : rd_T49 l0 (kk : Int) = l0[kk] := by unfold rd_T49; simp [List.getD_eq_getElem?_getD, hlt]
    have ek2 : rd_T49 l1 (kk : Int) = l1[kk] := by unfold rd_T49; simp [List.getD_eq_getElem?_getD, hlt1]
    rw [ek] at hx0 hx1 hcj hrow
    rw [ek2] at hy0 hy1 hcj2 hrow2
    clear ek ek2
    simp only [Int.toNat_natCast] at hx0 hx1 hy0 hy1
    replace hx0 := (HB.out.cell (World.block_lt_of_cell? w _ hx0)).trans hx0
    replace hx1 := (HB.out.cell (World.block_lt_of_cell? w _ hx1)).trans hx1
    replace hy0 := (HB.out.cell (World.block_lt_of_cell? w _ hy0)).trans hy0
    replace hy1 := (HB.out.cell (World.block_lt_of_cell? w _ hy1)).trans hy1
    have hby : Below wr.heap.size wr (wr.alloc (.cells #[.int .i64 l0[kk].f0, .slice Aj l0[kk].f1.length cj] 49)) := below_alloc (Below.refl _ _) _
    have hz0 := (hby.cell (World.block_lt_of_cell? wr _ hy0)).trans hy0
    have hz1 := (hby.cell (World.block_lt_of_cell? wr _ hy1)).trans hy1
    clear hby hy0 hy1
    have ha := HA.out
    rw [List.drop_eq_getElem_cons hlt, List.drop_eq_getElem_cons hlt1] at ha
    simp only [sameO] at ha
    obtain ⟨v, hvq, ha⟩ := Option.bind_eq_some_iff.1 ha
    have HCALL := Aside0.mk (fun (W : World) (hb : Below wr.heap.size wr W) => (samePat_pred k W Aj cj l0[kk] Aj2 cj2 l1[kk] v (Kd.C_below hrow (HB.out.trans (hb.mono HB.out.size))) hcj (Kd.C_below hrow2 (HB.out.trans (hb.mono HB.out.size))) hcj2 hvq).mono (fun e w' h => (⟨h.1, hb.trans (h.2.mono hb.size)⟩ : e = .returned (.bool v) ∧ Below wr.heap.size wr w')))
    clear hrow hcj hrow2 hcj2 hvq HA
    cases v with
    | true =>
     rw [if_pos rfl] at ha
     have HA := Aside0.mk ha
     clear ha
     go_wp2_with fail
     refine (HCALL.out _ ?_).mono ?_
     ·repeat (first | (with_reducible first | exact Below.refl _ _ | apply pw_below_drewN | apply below_drew1 | apply below_alloc))
     rintro e w' ⟨rfl, hb⟩
     have HB9 := Aside0.mk (HB.out.trans (hb.mono HB.out.size))
     clear hb
     go_wp2
     go_roundg (l0.length - (kk + 1))
     case measure => omega
     case rel => exact ⟨kk + 1, by omega, by omega, by go_num, HB9, HA⟩
    | false =>
     rw [if_neg (by simp)] at ha
     obtain rfl := Option.some.inj ha
     clear ha
     go_wp2_with fail
     refine (HCALL.out _ ?_).mono ?_
     ·repeat (first | (with_reducible first | exact Below.refl _ _ | apply pw_below_drewN | apply below_drew1 | apply below_alloc))
     rintro e w' ⟨rfl, hb⟩
     have HB9 := Aside0.mk (HB.out.trans (hb.mono HB.out.size))
     clear hb
     go_wp2
     go_ret
     exact ⟨rfl, HB9.out⟩
   ·have hk2 : kk = l0.length := by omega
    subst hk2
    have ha := HA.out
    rw [List.drop_of_length_le (Nat.le_refl _), List.drop_of_length_le (by have := HL.out; omega)] at ha
    obtain rfl := Option.some.inj (show some true = some r from ha)
    clear ha HA hlt
    go_wp2
    go_ret
    exact ⟨rfl, HB.out⟩
 ·have hl1 : ((l0.length : Int) != (l1.length : Int)) = true := by simp; omega
  have hl2 : (l0.length != l1.length) = true := by simpa using hl
  have hr : r = false := by
   cases r with
   | false => rfl
   | true => exact absurd (sameO_len k l0 l1 h) hl
  subst hr
  clear hl hr0 hr1 h
  go_enter Try.func131, Try.ntmps131
  go_wp2
  go_ret
  exact ⟨rfl, be_⟩
theorem impl_samePat.calls (k : Nat) (A0 : Option Addr) (c0 : Nat) (l0 : List S49) (A1 : Option Addr) (c1 : Nat) (l1 : List S49) (r : Bool) (w : World) (hr0 : Kd.C k49 w A0 l0.length l0) (hc0 : l0.length ≤ c0) (hr1 : Kd.C k49 w A1 l1.length l1) (hc1 : l1.length ≤ c1) (h : impl_samePat.f k l0 l1 = some r) :
  Calls Try.prog 118 #[.slice A0 l0.length c0, .slice A1 l1.length c1] w fun e w' => e = .returned (.bool r) ∧ Below w.heap.size w w' := by
 have HC := Aside0.mk (equalFuncRe k A0 c0 l0 A1 c1 l1 r w hr0 hr1 h)
 clear hr0 hr1 h
 go_enter Try.func118, Try.ntmps118
 go_wp2_with (go_at_call 131; refine HC.out.mono ?_; rintro e w' ⟨rfl, hb⟩)
 go_ret
 exact ⟨rfl, hb⟩

def impl_isNothing.f (k : Nat) (l0 : List (S49)) : Option (Bool) := (impl_nothing.f).bind fun t431 => ((impl_samePat.f k l0 t431).bind fun t434 => (some t434))
theorem impl_isNothing.calls (k : Nat) (A0 : Option Addr) (c0 : Nat) (l0 : List (S49)) (r : Bool) (w : World) (hr0 : Kd.C k49 w A0 l0.length l0) (hc0 : l0.length ≤ c0) (h : impl_isNothing.f k l0 = some r) :
  Calls Try.prog 116 #[.slice A0 l0.length c0] w fun e w' => e = .returned (.bool r) ∧ Below w.heap.size w w' := by
 have HR0 := Aside0.mk hr0
 have HC0 := Aside0.mk hc0
 clear hr0 hc0
 have HB := Aside0.mk (Below.refl w.heap.size w)
 have H : ((impl_nothing.f).bind fun t431 => ((impl_samePat.f k l0 t431).bind fun t434 => (some t434))) = some r := h
 clear h
 replace H := Option.bind_eq_some_iff.mp H
 obtain ⟨t431, A20, H⟩ := H
 try dsimp only at H
 have A2 := Aside0.mk A20
 clear A20
 replace H := Option.bind_eq_some_iff.mp H
 obtain ⟨t434, A30, H⟩ := H
 try dsimp only at H
 have A3 := Aside0.mk A30
 clear A30
 obtain rfl := Option.some.inj H
 go_enter Try.func116, Try.ntmps116
 go_wp2_with (first | ((with_reducible refine gate_callee (f := 108) rfl ?_); refine goesL_ (some 4) rfl rfl Try.func108 (by kernel_rfl) rfl #[] rfl mz_ ?_; (with_reducible refine (impl_nothing.calls  t431 _ A2.out).mono ?_); rintro e w4 ⟨v432, rfl, ho0, hb⟩; refine ⟨_, rfl, ?_⟩; have n0_ := Aside0.mk (Kd.S_lower ho0 (below_size bz_)); have n1_ := Aside0.mk (below_step bz_ hb); clear HB; have HO433 := n0_; have HB := n1_; clear n0_ n1_; (try clear ho0); obtain ⟨Ao5, co5, eo5⟩ := Kd.S_slice HO433.out; subst eo5) | ((with_reducible refine gate_callee (f := 118) rfl ?_); refine goesL_ (some 5) rfl rfl Try.func118 (by kernel_rfl) rfl #[.slice A0 l0.length c0, .slice Ao5 t431.length co5] rfl mz_ ?_; (with_reducible refine (impl_samePat.calls k _ _ l0 _ _ t431 t434 _ ?side1 ?side2 ?side3 ?side4 A3.out).mono ?_); (case side1 => exact cy_ HR0.out HB.out); (case side2 => exact HC0.out); (case side3 => repeat (first | exact (Kd.S_reads' HO433.out).2.2 | (with_reducible refine Kd.C_alloc ?_ _) | (with_reducible refine Kd.C_drewN ?_ _) | (with_reducible refine Kd.C_drew ?_))); (case side4 => exact (Kd.S_reads' HO433.out).2.1); rintro e w6 ⟨rfl, hb⟩; refine ⟨_, rfl, ?_⟩; have n0_ := Aside0.mk (Kd.S_below (sz_ HO433.out) hb); have n1_ := Aside0.mk (below_step bz_ hb); clear HO433; clear HB; have HO433 := n0_; have HB := n1_; clear n0_ n1_; ))
 go_ret
 exact ⟨rr_, bz_⟩

def impl_isNone.f (k : Nat) (l0 : List (S49)) : Option (Bool) := (impl_none.f).bind fun t435 => ((impl_samePat.f k l0 t435).bind fun t438 => (some t438))
theorem impl_isNone.calls (k : Nat) (A0 : Option Addr) (c0 : Nat) (l0 : List (S49)) (r : Bool) (w : World) (hr0 : Kd.C k49 w A0 l0.length l0) (hc0 : l0.length ≤ c0) (h : impl_isNone.f k l0 = some r) :
  Calls Try.prog 117 #[.slice A0 l0.length c0] w fun e w' => e = .returned (.bool r) ∧ Below w.heap.size w w' := by
 have HR0 := Aside0.mk hr0
 have HC0 := Aside0.mk hc0
 clear hr0 hc0
 have HB := Aside0.mk (Below.refl w.heap.size w)
 have H : ((impl_none.f).bind fun t435 => ((impl_samePat.f k l0 t435).bind fun t438 => (some t438))) = some r := h
 clear h
 replace H := Option.bind_eq_some_iff.mp H
 obtain ⟨t435, A20, H⟩ := H
 try dsimp only at H
 have A2 := Aside0.mk A20
 clear A20
 replace H := Option.bind_eq_some_iff.mp H
 obtain ⟨t438, A30, H⟩ := H
 try dsimp only at H
 have A3 := Aside0.mk A30
 clear A30
 obtain rfl := Option.some.inj H
 go_enter Try.func117, Try.ntmps117
 go_wp2_with (first | ((with_reducible refine gate_callee (f := 89) rfl ?_); refine goesL_ (some 4) rfl rfl Try.func89 (by kernel_rfl) rfl #[] rfl mz_ ?_; (with_reducible refine (impl_none.calls  t435 _ A2.out).mono ?_); rintro e w4 ⟨v436, rfl, ho0, hb⟩; refine ⟨_, rfl, ?_⟩; have n0_ := Aside0.mk (Kd.S_lower ho0 (below_size bz_)); have n1_ := Aside0.mk (below_step bz_ hb); clear HB; have HO437 := n0_; have HB := n1_; clear n0_ n1_; (try clear ho0); obtain ⟨Ao5, co5, eo5⟩ := Kd.S_slice HO437.out; subst eo5) | ((with_reducible refine gate_callee (f := 118) rfl ?_); refine goesL_ (some 5) rfl rfl Try.func118 (by kernel_rfl) rfl #[.slice A0 l0.length c0, .slice Ao5 t435.length co5] rfl mz_ ?_; (with_reducible refine (impl_samePat.calls k _ _ l0 _ _ t435 t438 _ ?side1 ?side2 ?side3 ?side4 A3.out).mono ?_); (case side1 => exact cy_ HR0.out HB.out); (case side2 => exact HC0.out); (case side3 => repeat (first | exact (Kd.S_reads' HO437.out).2.2 | (with_reducible refine Kd.C_alloc ?_ _) | (with_reducible refine Kd.C_drewN ?_ _) | (with_reducible refine Kd.C_drew ?_))); (case side4 => exact (Kd.S_reads' HO437.out).2.1); rintro e w6 ⟨rfl, hb⟩; refine ⟨_, rfl, ?_⟩; have n0_ := Aside0.mk (Kd.S_below (sz_ HO437.out) hb); have n1_ := Aside0.mk (below_step bz_ hb); clear HO437; clear HB; have HO437 := n0_; have HB := n1_; clear n0_ n1_; ))
 go_ret
 exact ⟨rr_, bz_⟩

end Go.Proofs.Ytlmpeaelpchokaa.HFnExactDerivRe
