/- Written by wip/pr.py of this session, for the law FnExactDerivRe: Lean functions with the answers of the program's, and the proofs of that; where the kit's print has no word, by hand. -/
import Derived.Test.YtlmpeaelpchokaaHFnExactDerivRex0
import Derived.Test.YtlmpeaelpchokaaHFnExactDerivRex2
import Derived.Test.YtlmpeaelpchokaaHFnExactDerivRex3
namespace Go.Proofs.Ytlmpeaelpchokaa.HFnExactDerivRe
open Go.RowKit Go.Proofs.YtlmpeaelpchokaaW.PrintWords Go.Proofs.YtlmpeaelpchokaaW.PrintLast Go.Proofs.YtlmpeaelpchokaaW.PrintMore

set_option linter.unusedVariables false
set_option linter.unusedSimpArgs false

def spec_l5IsNone.f (l0 : List (S49)) : Option (Bool) := if (l0.length : Int) = 1 then (if 0 < (l0.length : Int) then (if ((rd_T49 l0 0).f0) = 2 then (some ((((rd_T49 l0 0).f1).length : Int) == 0)) else (some false)) else (none)) else (some false)
set_option maxHeartbeats 8000000 in
set_option maxRecDepth 100000 in
theorem spec_l5IsNone.calls (A0 : Option Addr) (c0 : Nat) (l0 : List (S49)) (r : Bool) (w : World) (hr0 : Kd.C k49 w A0 l0.length l0) (hc0 : l0.length ≤ c0) (h : spec_l5IsNone.f l0 = some r) :
  Calls Try.prog 98 #[.slice A0 l0.length c0] w fun e w' => e = .returned (.bool r) ∧ Drawn0 w w' := by
 have HR0 := Aside0.mk hr0
 have HC0 := Aside0.mk hc0
 clear hr0 hc0
 have H : (if (l0.length : Int) = 1 then (if 0 < (l0.length : Int) then (if ((rd_T49 l0 0).f0) = 2 then (some ((((rd_T49 l0 0).f1).length : Int) == 0)) else (some false)) else (none)) else (some false)) = some r := h
 clear h
 by_cases c2 : (l0.length : Int) = 1
 ·rw [if_pos c2] at H
  have c2b0 := q1_ c2
  have c2b1 := q2_ c2
  clear c2
  by_cases c3 : 0 < (l0.length : Int)
  ·rw [if_pos c3] at H
   have c3b0 := decide_eq_true c3
   have c3b1 : decide (0 < l0.length) = true := decide_eq_true (by omega)
   clear c3
   by_cases c4 : ((rd_T49 l0 0).f0) = 2
   ·rw [if_pos c4] at H
    have c4b0 := q1_ c4
    have c4b1 := q2_ c4
    clear c4
    obtain rfl := Option.some.inj H
    have p178 : 0 ≤ (0 : Int) := (by omega)
    have q178 : 0 < (l0.length : Int) := of_decide_eq_true az_
    obtain ⟨ad178, A178_1, c178_1, e178, hx178_0, hx178_1, hl178_1, hi178_1⟩ := at_T49 HR0.out 0 p178 q178
    cases e178
    have qi178 : (0 < l0.length) = True := eq_true (by omega)
    (try rw [show ((0 : Int)).toNat = 0 from rfl] at hx178_0)
    (try rw [show 0 * 2 = 0 from rfl] at hx178_0)
    (try rw [Addr.add_zero'] at hx178_0)
    (try rw [show ((0 : Int)).toNat = 0 from rfl] at hx178_1)
    (try rw [show 0 * 2 = 0 from rfl] at hx178_1)
    (try rw [Addr.add_zero'] at hx178_1)
    have HR178_1 := Aside0.mk hi178_1
    have HC178_1 := Aside0.mk hl178_1
    clear hi178_1 hl178_1
    replace p178 := eq_true p178
    replace q178 := eq_true q178
    have p179 : 0 ≤ (0 : Int) := (by omega)
    have q179 : 0 < (l0.length : Int) := of_decide_eq_true az_
    obtain ⟨ad179, A179_1, c179_1, e179, hx179_0, hx179_1, hl179_1, hi179_1⟩ := at_T49 HR0.out 0 p179 q179
    obtain rfl : ad178 = ad179 := (by injection e179)
    have qi179 : (0 < l0.length) = True := eq_true (by omega)
    (try rw [show ((0 : Int)).toNat = 0 from rfl] at hx179_0)
    (try rw [show 0 * 2 = 0 from rfl] at hx179_0)
    (try rw [Addr.add_zero'] at hx179_0)
    (try rw [show ((0 : Int)).toNat = 0 from rfl] at hx179_1)
    (try rw [show 0 * 2 = 0 from rfl] at hx179_1)
    (try rw [Addr.add_zero'] at hx179_1)
    have HR179_1 := Aside0.mk hi179_1
    have HC179_1 := Aside0.mk hl179_1
    clear hi179_1 hl179_1
    replace p179 := eq_true p179
    replace q179 := eq_true q179
    have ea_ := Option.some.inj (hx178_1.symm.trans hx179_1)
    injection ea_ with ea_ en_ ec_
    subst ea_
    subst ec_
    clear en_
    go_enter Try.func98, Try.ntmps98
    go_wp2
    go_ret
    exact ⟨rs_, dr_⟩
   ·rw [if_neg c4] at H
    have c4b0 := q3_ c4
    have c4b1 := q4_ c4
    obtain rfl := Option.some.inj H
    have p178 : 0 ≤ (0 : Int) := (by omega)
    have q178 : 0 < (l0.length : Int) := of_decide_eq_true az_
    obtain ⟨ad178, A178_1, c178_1, e178, hx178_0, hx178_1, hl178_1, hi178_1⟩ := at_T49 HR0.out 0 p178 q178
    cases e178
    have qi178 : (0 < l0.length) = True := eq_true (by omega)
    (try rw [show ((0 : Int)).toNat = 0 from rfl] at hx178_0)
    (try rw [show 0 * 2 = 0 from rfl] at hx178_0)
    (try rw [Addr.add_zero'] at hx178_0)
    (try rw [show ((0 : Int)).toNat = 0 from rfl] at hx178_1)
    (try rw [show 0 * 2 = 0 from rfl] at hx178_1)
    (try rw [Addr.add_zero'] at hx178_1)
    have HR178_1 := Aside0.mk hi178_1
    have HC178_1 := Aside0.mk hl178_1
    clear hi178_1 hl178_1
    replace p178 := eq_true p178
    replace q178 := eq_true q178
    go_enter Try.func98, Try.ntmps98
    go_wp2
    go_ret
    exact ⟨rs_, dr_⟩
  ·rw [if_neg c3] at H
   exact absurd H (by simp)
 ·rw [if_neg c2] at H
  have c2b0 := q3_ c2
  have c2b1 := q4_ c2
  obtain rfl := Option.some.inj H
  go_enter Try.func98, Try.ntmps98
  go_wp2
  go_ret
  exact ⟨rs_, dr_⟩

def spec_l5None.f  : Option ((List (S49))) := some (([(⟨2, ([] : List Int)⟩ : S49)] : List (S49)))
set_option maxHeartbeats 8000000 in
set_option maxRecDepth 100000 in
theorem spec_l5None.calls  (r : List (S49)) (w : World) (h : spec_l5None.f  = some r) :
  Calls Try.prog 106 #[] w fun e w' => ∃ v0_ : Value, e = .returned (v0_) ∧ Kd.S k49 49 w' w.heap.size (fun _ => True) v0_ r ∧ Below w.heap.size w w' := by
 have hu49 := Try.underlying49
 have HB := Aside0.mk (Below.refl w.heap.size w)
 have H : (some (([(⟨2, ([] : List Int)⟩ : S49)] : List (S49)))) = some r := h
 clear h
 obtain ⟨y180, hy180⟩ : ∃ y_ : List (S49), y_ = (([(⟨2, ([] : List Int)⟩ : S49)] : List (S49))) := ⟨_, rfl⟩
 replace H : (some y180) = some r := yz_ hy180 H
 have Ny180 := Aside0.mk hy180
 clear hy180
 obtain rfl := Option.some.inj H
 go_enter Try.func106, Try.ntmps106
 go_wp2_with (first | ((with_reducible refine gate_dst (N := 2) rfl ?_); refine Kd.S_lit k49 _ 49 ?hg (N := 2) ?hd (xs := ([(⟨2, ([] : List Int)⟩ : S49)] : List (S49))) (inner := [.int .i64 2, .slice none 0 0]) (ok := fun _ => True) (okp := fun _ => True) ?hr ?hp (fun _ hk => hk) trivial (Below.refl _ _) (Nat.le_refl _) (by simp) ?_; (case hd => rfl); (case hg => rfl); (case hr => first | (go_simp; done) | (go_simp; rfl)); (case hp => exact (Reps.c2 (show Kd.M k49 _ _ _ (⟨2, ([] : List Int)⟩ : S49) [.int .i64 2, .slice none 0 0] from (k49_mkM _ _ _ (⟨2, ([] : List Int)⟩ : S49) (Kd.R_nil _ _ _ _ _))) (Reps.none _ _))); intro v181 w1 ho2 hb hg_ hnew_; clear hg_ hnew_; (first | rw [← Ny180.out] at ho2 | (simp only [Int.reduceToNat] at ho2; rw [← Ny180.out] at ho2)); have n0_ := Aside0.mk (Kd.S_lower ho2 (below_size bz_)); have n1_ := Aside0.mk (below_step bz_ hb); clear HB; have HO182 := n0_; have HB := n1_; clear n0_ n1_; clear hb ho2))
 go_ret
 exact ⟨_, rr_, sz_ HO182.out, bz_⟩

def spec_l1Same.l0 : Nat → List Int → List Int → Int → Int → Option (Bool)
 | 0, _, _, _, _ => none
 | k + 1, x0, x1, x12, x13 => if x13 < x12 then (if 0 ≤ x13 then (if x13 < (x0.length : Int) then (if x13 < (x1.length : Int) then (if (rd x0 x13) = (rd x1 x13) then (spec_l1Same.l0 k x0 x1 x12 (wrap64 (x13 + 1))) else (some false)) else (none)) else (none)) else (none)) else (some true)
def spec_l1Same.f (k : Nat) (l0 : List Int) (l1 : List Int) : Option (Bool) := if (l0.length : Int) = (l1.length : Int) then (spec_l1Same.l0 k l0 l1 (l0.length : Int) 0) else (some false)
set_option maxHeartbeats 8000000 in
set_option maxRecDepth 100000 in
theorem spec_l1Same.calls (k : Nat) (A0 : Option Addr) (c0 : Nat) (l0 : List Int) (A1 : Option Addr) (c1 : Nat) (l1 : List Int) (r : Bool) (w : World) (hr0 : Kd.C (Kd.int .i64) w A0 l0.length l0) (hc0 : l0.length ≤ c0) (hr1 : Kd.C (Kd.int .i64) w A1 l1.length l1) (hc1 : l1.length ≤ c1) (h : spec_l1Same.f k l0 l1 = some r) :
  Calls Try.prog 125 #[.slice A0 l0.length c0, .slice A1 l1.length c1] w fun e w' => e = .returned (.bool r) ∧ Drawn0 w w' := by
 have HR0 := Aside0.mk hr0
 have HC0 := Aside0.mk hc0
 clear hr0 hc0
 have HR1 := Aside0.mk hr1
 have HC1 := Aside0.mk hc1
 clear hr1 hc1
 have H : (if (l0.length : Int) = (l1.length : Int) then (spec_l1Same.l0 k l0 l1 (l0.length : Int) 0) else (some false)) = some r := h
 clear h
 by_cases c3 : (l0.length : Int) = (l1.length : Int)
 ·rw [if_pos c3] at H
  have c3b0 := q1_ c3
  have c3b1 := q2_ c3
  have c3b2 : (l0.length == l1.length) = true := by first | simpa using c3 | (simp at c3 ⊢; omega)
  clear c3
  have H' := Aside0.mk H
  clear H
  go_enter Try.func125, Try.ntmps125
  go_wp2
  repeat (go_quiet (fail); try go_wp2)
  go_loopg [13] k (fun kq v13 w' => ∃ (x13_1 : Int), v13 = .int .i64 x13_1 ∧ Aside0 (spec_l1Same.l0 kq l0 l1 (l0.length : Int) x13_1 = some r) ∧ Aside0 (kq ≤ k) ∧ Drawn0 w w')
  case atStart => exact ⟨(0), rs_, H', ⟨Nat.le_refl _⟩, dr_⟩
  case round =>
   clear H'
   try clear c1
   try clear p2
   try clear c3
   try clear c3b0
   try clear c3b1
   try clear c3b2
   obtain ⟨x13_1, rfl, HA, HK1, ⟨m1, rfl⟩⟩ := hrel
   cases gk with
   | zero => exact absurd HA.out (by simp [spec_l1Same.l0])
   | succ k1 =>
    have H := HA.out
    clear HA
    simp only [spec_l1Same.l0] at H
    by_cases c4 : x13_1 < (l0.length : Int)
    ·rw [if_pos c4] at H
     have c4b0 := decide_eq_true c4
     clear c4
     by_cases c5 : 0 ≤ x13_1
     ·rw [if_pos c5] at H
      have c5b0 := decide_eq_true c5
      clear c5
      by_cases c6 : x13_1 < (l0.length : Int)
      ·rw [if_pos c6] at H
       have c6b0 := decide_eq_true c6
       clear c6
       by_cases c7 : x13_1 < (l1.length : Int)
       ·rw [if_pos c7] at H
        have c7b0 := decide_eq_true c7
        clear c7
        by_cases c8 : (rd l0 x13_1) = (rd l1 x13_1)
        ·rw [if_pos c8] at H
         have c8b0 := q1_ c8
         have c8b1 := q2_ c8
         clear c8
         have H' := Aside0.mk H
         clear H
         have p183 : 0 ≤ (x13_1 : Int) := of_decide_eq_true az_
         have q183 : x13_1 < (l0.length : Int) := of_decide_eq_true az_
         obtain ⟨ad183, e183, hx183_0⟩ := Kd.at_int HR0.out x13_1 p183 q183
         cases e183
         replace p183 := eq_true p183
         replace q183 := eq_true q183
         have p184 : 0 ≤ (x13_1 : Int) := of_decide_eq_true az_
         have q184 : x13_1 < (l1.length : Int) := of_decide_eq_true az_
         obtain ⟨ad184, e184, hx184_0⟩ := Kd.at_int HR1.out x13_1 p184 q184
         cases e184
         replace p184 := eq_true p184
         replace q184 := eq_true q184
         go_wp2
         repeat (go_quiet (fail); try go_wp2)
         go_roundg k1
         case measure => have := HK1.out; omega
         case rel => exact ⟨(wrap64 (x13_1 + 1)), rs_, H', ⟨by have := HK1.out; omega⟩, dr_⟩
        ·rw [if_neg c8] at H
         have c8b0 := q3_ c8
         have c8b1 := q4_ c8
         obtain rfl := Option.some.inj H
         have p183 : 0 ≤ (x13_1 : Int) := of_decide_eq_true az_
         have q183 : x13_1 < (l0.length : Int) := of_decide_eq_true az_
         obtain ⟨ad183, e183, hx183_0⟩ := Kd.at_int HR0.out x13_1 p183 q183
         cases e183
         replace p183 := eq_true p183
         replace q183 := eq_true q183
         have p184 : 0 ≤ (x13_1 : Int) := of_decide_eq_true az_
         have q184 : x13_1 < (l1.length : Int) := of_decide_eq_true az_
         obtain ⟨ad184, e184, hx184_0⟩ := Kd.at_int HR1.out x13_1 p184 q184
         cases e184
         replace p184 := eq_true p184
         replace q184 := eq_true q184
         go_wp2
         repeat (go_quiet (fail); try go_wp2)
         go_ret
         exact ⟨rs_, dr_⟩
       ·rw [if_neg c7] at H
        exact absurd H (by simp)
      ·rw [if_neg c6] at H
       exact absurd H (by simp)
     ·rw [if_neg c5] at H
      exact absurd H (by simp)
    ·rw [if_neg c4] at H
     have c4b0 := decide_eq_false c4
     (try rw [hl0_1] at c4b0)
     clear c4
     obtain rfl := Option.some.inj H
     go_wp2
     repeat (go_quiet (fail); try go_wp2)
     go_ret
     exact ⟨rs_, dr_⟩
 ·rw [if_neg c3] at H
  have c3b0 := q3_ c3
  have c3b1 := q4_ c3
  have c3b2 : (l0.length == l1.length) = false := by first | simpa using c3 | (simp at c3 ⊢; omega)
  obtain rfl := Option.some.inj H
  go_enter Try.func125, Try.ntmps125
  go_wp2
  repeat (go_quiet (fail); try go_wp2)
  go_ret
  exact ⟨rs_, dr_⟩

def spec_l5Same.l0 : Nat → List (S49) → List (S49) → Int → Int → Option (Bool)
 | 0, _, _, _, _ => none
 | k + 1, x0, x1, x12, x13 => if x13 < x12 then (if 0 ≤ x13 then (if x13 < (x0.length : Int) then (if x13 < (x1.length : Int) then (if ((rd_T49 x0 x13).f0) = ((rd_T49 x1 x13).f0) then ((spec_l1Same.f k ((rd_T49 x0 x13).f1) ((rd_T49 x1 x13).f1)).bind fun t189 => (if t189 = true then (spec_l5Same.l0 k x0 x1 x12 (wrap64 (x13 + 1))) else (some false))) else (some false)) else (none)) else (none)) else (none)) else (some true)
def spec_l5Same.f (k : Nat) (l0 : List (S49)) (l1 : List (S49)) : Option (Bool) := if (l0.length : Int) = (l1.length : Int) then (spec_l5Same.l0 k l0 l1 (l0.length : Int) 0) else (some false)
set_option maxHeartbeats 8000000 in
set_option maxRecDepth 100000 in
theorem spec_l5Same.calls (k : Nat) (A0 : Option Addr) (c0 : Nat) (l0 : List (S49)) (A1 : Option Addr) (c1 : Nat) (l1 : List (S49)) (r : Bool) (w : World) (hr0 : Kd.C k49 w A0 l0.length l0) (hc0 : l0.length ≤ c0) (hr1 : Kd.C k49 w A1 l1.length l1) (hc1 : l1.length ≤ c1) (h : spec_l5Same.f k l0 l1 = some r) :
  Calls Try.prog 115 #[.slice A0 l0.length c0, .slice A1 l1.length c1] w fun e w' => e = .returned (.bool r) ∧ Drawn0 w w' := by
 have HR0 := Aside0.mk hr0
 have HC0 := Aside0.mk hc0
 clear hr0 hc0
 have HR1 := Aside0.mk hr1
 have HC1 := Aside0.mk hc1
 clear hr1 hc1
 have H : (if (l0.length : Int) = (l1.length : Int) then (spec_l5Same.l0 k l0 l1 (l0.length : Int) 0) else (some false)) = some r := h
 clear h
 by_cases c3 : (l0.length : Int) = (l1.length : Int)
 ·rw [if_pos c3] at H
  have c3b0 := q1_ c3
  have c3b1 := q2_ c3
  have c3b2 : (l0.length == l1.length) = true := by first | simpa using c3 | (simp at c3 ⊢; omega)
  clear c3
  have H' := Aside0.mk H
  clear H
  go_enter Try.func115, Try.ntmps115
  go_wp2
  repeat (go_quiet (fail); try go_wp2)
  go_loopg [13] k (fun kq v13 w' => ∃ (x13_1 : Int), v13 = .int .i64 x13_1 ∧ Aside0 (spec_l5Same.l0 kq l0 l1 (l0.length : Int) x13_1 = some r) ∧ Aside0 (kq ≤ k) ∧ Drawn0 w w')
  case atStart => exact ⟨(0), rs_, H', ⟨Nat.le_refl _⟩, dr_⟩
  case round =>
   clear H'
   try clear c1
   try clear p2
   try clear c3
   try clear c3b0
   try clear c3b1
   try clear c3b2
   obtain ⟨x13_1, rfl, HA, HK1, ⟨m1, rfl⟩⟩ := hrel
   cases gk with
   | zero => exact absurd HA.out (by simp [spec_l5Same.l0])
   | succ k1 =>
    have H := HA.out
    clear HA
    simp only [spec_l5Same.l0] at H
    by_cases c4 : x13_1 < (l0.length : Int)
    ·rw [if_pos c4] at H
     have c4b0 := decide_eq_true c4
     clear c4
     by_cases c5 : 0 ≤ x13_1
     ·rw [if_pos c5] at H
      have c5b0 := decide_eq_true c5
      clear c5
      by_cases c6 : x13_1 < (l0.length : Int)
      ·rw [if_pos c6] at H
       have c6b0 := decide_eq_true c6
       clear c6
       by_cases c7 : x13_1 < (l1.length : Int)
       ·rw [if_pos c7] at H
        have c7b0 := decide_eq_true c7
        clear c7
        by_cases c8 : ((rd_T49 l0 x13_1).f0) = ((rd_T49 l1 x13_1).f0)
        ·rw [if_pos c8] at H
         have c8b0 := q1_ c8
         have c8b1 := q2_ c8
         clear c8
         replace H := Option.bind_eq_some_iff.mp H
         obtain ⟨t189, A90, H⟩ := H
         try dsimp only at H
         have A9 := Aside0.mk A90
         clear A90
         by_cases c10 : t189 = true
         ·subst c10
          have H1 := H
          rw [if_pos rfl] at H1
          clear H
          have H := H1
          clear H1
          have H' := Aside0.mk H
          clear H
          have p185 : 0 ≤ (x13_1 : Int) := of_decide_eq_true az_
          have q185 : x13_1 < (l0.length : Int) := of_decide_eq_true az_
          obtain ⟨ad185, A185_1, c185_1, e185, hx185_0, hx185_1, hl185_1, hi185_1⟩ := at_T49 HR0.out x13_1 p185 q185
          cases e185
          have HR185_1 := Aside0.mk hi185_1
          have HC185_1 := Aside0.mk hl185_1
          clear hi185_1 hl185_1
          replace p185 := eq_true p185
          replace q185 := eq_true q185
          have p186 : 0 ≤ (x13_1 : Int) := of_decide_eq_true az_
          have q186 : x13_1 < (l1.length : Int) := of_decide_eq_true az_
          obtain ⟨ad186, A186_1, c186_1, e186, hx186_0, hx186_1, hl186_1, hi186_1⟩ := at_T49 HR1.out x13_1 p186 q186
          cases e186
          have HR186_1 := Aside0.mk hi186_1
          have HC186_1 := Aside0.mk hl186_1
          clear hi186_1 hl186_1
          replace p186 := eq_true p186
          replace q186 := eq_true q186
          have p187 : 0 ≤ (x13_1 : Int) := of_decide_eq_true az_
          have q187 : x13_1 < (l0.length : Int) := of_decide_eq_true az_
          obtain ⟨ad187, A187_1, c187_1, e187, hx187_0, hx187_1, hl187_1, hi187_1⟩ := at_T49 HR0.out x13_1 p187 q187
          obtain rfl : ad185 = ad187 := (by injection e187)
          have HR187_1 := Aside0.mk hi187_1
          have HC187_1 := Aside0.mk hl187_1
          clear hi187_1 hl187_1
          replace p187 := eq_true p187
          replace q187 := eq_true q187
          have ea_ := Option.some.inj (hx185_1.symm.trans hx187_1)
          injection ea_ with ea_ en_ ec_
          subst ea_
          subst ec_
          clear en_
          have p188 : 0 ≤ (x13_1 : Int) := of_decide_eq_true az_
          have q188 : x13_1 < (l1.length : Int) := of_decide_eq_true az_
          obtain ⟨ad188, A188_1, c188_1, e188, hx188_0, hx188_1, hl188_1, hi188_1⟩ := at_T49 HR1.out x13_1 p188 q188
          obtain rfl : ad186 = ad188 := (by injection e188)
          have HR188_1 := Aside0.mk hi188_1
          have HC188_1 := Aside0.mk hl188_1
          clear hi188_1 hl188_1
          replace p188 := eq_true p188
          replace q188 := eq_true q188
          have ea_ := Option.some.inj (hx186_1.symm.trans hx188_1)
          injection ea_ with ea_ en_ ec_
          subst ea_
          subst ec_
          clear en_
          go_wp2_with (first | (go_at_call 125; (with_reducible refine (spec_l1Same.calls k1 _ _ ((rd_T49 l0 x13_1).f1) _ _ ((rd_T49 l1 x13_1).f1) true _ ?side1 ?side2 ?side3 ?side4 A9.out).mono ?_); (case side1 => repeat (first | exact HR187_1.out | (with_reducible refine Kd.C_alloc ?_ _) | (with_reducible refine Kd.C_drewN ?_ _) | (with_reducible refine Kd.C_drew ?_))); (case side2 => exact HC187_1.out); (case side3 => repeat (first | exact HR188_1.out | (with_reducible refine Kd.C_alloc ?_ _) | (with_reducible refine Kd.C_drewN ?_ _) | (with_reducible refine Kd.C_drew ?_))); (case side4 => exact HC188_1.out); rintro e w' ⟨rfl, ⟨nd, rfl⟩⟩; (try exact dw_)))
          repeat (go_quiet (first | (go_at_call 125; (with_reducible refine (spec_l1Same.calls k1 _ _ ((rd_T49 l0 x13_1).f1) _ _ ((rd_T49 l1 x13_1).f1) true _ ?side1 ?side2 ?side3 ?side4 A9.out).mono ?_); (case side1 => repeat (first | exact HR187_1.out | (with_reducible refine Kd.C_alloc ?_ _) | (with_reducible refine Kd.C_drewN ?_ _) | (with_reducible refine Kd.C_drew ?_))); (case side2 => exact HC187_1.out); (case side3 => repeat (first | exact HR188_1.out | (with_reducible refine Kd.C_alloc ?_ _) | (with_reducible refine Kd.C_drewN ?_ _) | (with_reducible refine Kd.C_drew ?_))); (case side4 => exact HC188_1.out); rintro e w' ⟨rfl, ⟨nd, rfl⟩⟩; (try exact dw_))); try go_wp2_with (first | (go_at_call 125; (with_reducible refine (spec_l1Same.calls k1 _ _ ((rd_T49 l0 x13_1).f1) _ _ ((rd_T49 l1 x13_1).f1) true _ ?side1 ?side2 ?side3 ?side4 A9.out).mono ?_); (case side1 => repeat (first | exact HR187_1.out | (with_reducible refine Kd.C_alloc ?_ _) | (with_reducible refine Kd.C_drewN ?_ _) | (with_reducible refine Kd.C_drew ?_))); (case side2 => exact HC187_1.out); (case side3 => repeat (first | exact HR188_1.out | (with_reducible refine Kd.C_alloc ?_ _) | (with_reducible refine Kd.C_drewN ?_ _) | (with_reducible refine Kd.C_drew ?_))); (case side4 => exact HC188_1.out); rintro e w' ⟨rfl, ⟨nd, rfl⟩⟩; (try exact dw_))))
          go_roundg k1
          case measure => have := HK1.out; omega
          case rel => exact ⟨(wrap64 (x13_1 + 1)), rs_, H', ⟨by have := HK1.out; omega⟩, dr_⟩
         ·replace c10 := Bool.eq_false_iff.mpr c10
          subst c10
          have H1 := H
          rw [if_neg (show ¬ (false = true) by decide)] at H1
          clear H
          have H := H1
          clear H1
          obtain rfl := Option.some.inj H
          have p185 : 0 ≤ (x13_1 : Int) := of_decide_eq_true az_
          have q185 : x13_1 < (l0.length : Int) := of_decide_eq_true az_
          obtain ⟨ad185, A185_1, c185_1, e185, hx185_0, hx185_1, hl185_1, hi185_1⟩ := at_T49 HR0.out x13_1 p185 q185
          cases e185
          have HR185_1 := Aside0.mk hi185_1
          have HC185_1 := Aside0.mk hl185_1
          clear hi185_1 hl185_1
          replace p185 := eq_true p185
          replace q185 := eq_true q185
          have p186 : 0 ≤ (x13_1 : Int) := of_decide_eq_true az_
          have q186 : x13_1 < (l1.length : Int) := of_decide_eq_true az_
          obtain ⟨ad186, A186_1, c186_1, e186, hx186_0, hx186_1, hl186_1, hi186_1⟩ := at_T49 HR1.out x13_1 p186 q186
          cases e186
          have HR186_1 := Aside0.mk hi186_1
          have HC186_1 := Aside0.mk hl186_1
          clear hi186_1 hl186_1
          replace p186 := eq_true p186
          replace q186 := eq_true q186
          have p187 : 0 ≤ (x13_1 : Int) := of_decide_eq_true az_
          have q187 : x13_1 < (l0.length : Int) := of_decide_eq_true az_
          obtain ⟨ad187, A187_1, c187_1, e187, hx187_0, hx187_1, hl187_1, hi187_1⟩ := at_T49 HR0.out x13_1 p187 q187
          obtain rfl : ad185 = ad187 := (by injection e187)
          have HR187_1 := Aside0.mk hi187_1
          have HC187_1 := Aside0.mk hl187_1
          clear hi187_1 hl187_1
          replace p187 := eq_true p187
          replace q187 := eq_true q187
          have ea_ := Option.some.inj (hx185_1.symm.trans hx187_1)
          injection ea_ with ea_ en_ ec_
          subst ea_
          subst ec_
          clear en_
          have p188 : 0 ≤ (x13_1 : Int) := of_decide_eq_true az_
          have q188 : x13_1 < (l1.length : Int) := of_decide_eq_true az_
          obtain ⟨ad188, A188_1, c188_1, e188, hx188_0, hx188_1, hl188_1, hi188_1⟩ := at_T49 HR1.out x13_1 p188 q188
          obtain rfl : ad186 = ad188 := (by injection e188)
          have HR188_1 := Aside0.mk hi188_1
          have HC188_1 := Aside0.mk hl188_1
          clear hi188_1 hl188_1
          replace p188 := eq_true p188
          replace q188 := eq_true q188
          have ea_ := Option.some.inj (hx186_1.symm.trans hx188_1)
          injection ea_ with ea_ en_ ec_
          subst ea_
          subst ec_
          clear en_
          go_wp2_with (first | (go_at_call 125; (with_reducible refine (spec_l1Same.calls k1 _ _ ((rd_T49 l0 x13_1).f1) _ _ ((rd_T49 l1 x13_1).f1) false _ ?side1 ?side2 ?side3 ?side4 A9.out).mono ?_); (case side1 => repeat (first | exact HR187_1.out | (with_reducible refine Kd.C_alloc ?_ _) | (with_reducible refine Kd.C_drewN ?_ _) | (with_reducible refine Kd.C_drew ?_))); (case side2 => exact HC187_1.out); (case side3 => repeat (first | exact HR188_1.out | (with_reducible refine Kd.C_alloc ?_ _) | (with_reducible refine Kd.C_drewN ?_ _) | (with_reducible refine Kd.C_drew ?_))); (case side4 => exact HC188_1.out); rintro e w' ⟨rfl, ⟨nd, rfl⟩⟩; (try exact dw_)))
          repeat (go_quiet (first | (go_at_call 125; (with_reducible refine (spec_l1Same.calls k1 _ _ ((rd_T49 l0 x13_1).f1) _ _ ((rd_T49 l1 x13_1).f1) false _ ?side1 ?side2 ?side3 ?side4 A9.out).mono ?_); (case side1 => repeat (first | exact HR187_1.out | (with_reducible refine Kd.C_alloc ?_ _) | (with_reducible refine Kd.C_drewN ?_ _) | (with_reducible refine Kd.C_drew ?_))); (case side2 => exact HC187_1.out); (case side3 => repeat (first | exact HR188_1.out | (with_reducible refine Kd.C_alloc ?_ _) | (with_reducible refine Kd.C_drewN ?_ _) | (with_reducible refine Kd.C_drew ?_))); (case side4 => exact HC188_1.out); rintro e w' ⟨rfl, ⟨nd, rfl⟩⟩; (try exact dw_))); try go_wp2_with (first | (go_at_call 125; (with_reducible refine (spec_l1Same.calls k1 _ _ ((rd_T49 l0 x13_1).f1) _ _ ((rd_T49 l1 x13_1).f1) false _ ?side1 ?side2 ?side3 ?side4 A9.out).mono ?_); (case side1 => repeat (first | exact HR187_1.out | (with_reducible refine Kd.C_alloc ?_ _) | (with_reducible refine Kd.C_drewN ?_ _) | (with_reducible refine Kd.C_drew ?_))); (case side2 => exact HC187_1.out); (case side3 => repeat (first | exact HR188_1.out | (with_reducible refine Kd.C_alloc ?_ _) | (with_reducible refine Kd.C_drewN ?_ _) | (with_reducible refine Kd.C_drew ?_))); (case side4 => exact HC188_1.out); rintro e w' ⟨rfl, ⟨nd, rfl⟩⟩; (try exact dw_))))
          go_ret
          exact ⟨rs_, dr_⟩
        ·rw [if_neg c8] at H
         have c8b0 := q3_ c8
         have c8b1 := q4_ c8
         obtain rfl := Option.some.inj H
         have p185 : 0 ≤ (x13_1 : Int) := of_decide_eq_true az_
         have q185 : x13_1 < (l0.length : Int) := of_decide_eq_true az_
         obtain ⟨ad185, A185_1, c185_1, e185, hx185_0, hx185_1, hl185_1, hi185_1⟩ := at_T49 HR0.out x13_1 p185 q185
         cases e185
         have HR185_1 := Aside0.mk hi185_1
         have HC185_1 := Aside0.mk hl185_1
         clear hi185_1 hl185_1
         replace p185 := eq_true p185
         replace q185 := eq_true q185
         have p186 : 0 ≤ (x13_1 : Int) := of_decide_eq_true az_
         have q186 : x13_1 < (l1.length : Int) := of_decide_eq_true az_
         obtain ⟨ad186, A186_1, c186_1, e186, hx186_0, hx186_1, hl186_1, hi186_1⟩ := at_T49 HR1.out x13_1 p186 q186
         cases e186
         have HR186_1 := Aside0.mk hi186_1
         have HC186_1 := Aside0.mk hl186_1
         clear hi186_1 hl186_1
         replace p186 := eq_true p186
         replace q186 := eq_true q186
         go_wp2
         repeat (go_quiet (fail); try go_wp2)
         go_ret
         exact ⟨rs_, dr_⟩
       ·rw [if_neg c7] at H
        exact absurd H (by simp)
      ·rw [if_neg c6] at H
       exact absurd H (by simp)
     ·rw [if_neg c5] at H
      exact absurd H (by simp)
    ·rw [if_neg c4] at H
     have c4b0 := decide_eq_false c4
     (try rw [hl0_1] at c4b0)
     clear c4
     obtain rfl := Option.some.inj H
     go_wp2
     repeat (go_quiet (fail); try go_wp2)
     go_ret
     exact ⟨rs_, dr_⟩
 ·rw [if_neg c3] at H
  have c3b0 := q3_ c3
  have c3b1 := q4_ c3
  have c3b2 : (l0.length == l1.length) = false := by first | simpa using c3 | (simp at c3 ⊢; omega)
  obtain rfl := Option.some.inj H
  go_enter Try.func115, Try.ntmps115
  go_wp2
  repeat (go_quiet (fail); try go_wp2)
  go_ret
  exact ⟨rs_, dr_⟩

def twoV (op : Int) (nA nB iA iB sm : Bool) (a b : List S49) : Option (List S49) :=
 if op = 3 then some (if nA = true then [⟨2, []⟩] else if nB = true then [⟨2, []⟩] else if iA = true then b else if iB = true then a else a ++ b ++ [⟨3, []⟩])
 else if op = 4 then some (if nA = true then b else if nB = true then a else if sm = true then a else a ++ b ++ [⟨4, []⟩])
 else if op = 5 then some (if nA = true then [⟨2, []⟩] else if nB = true then [⟨2, []⟩] else if sm = true then a else a ++ b ++ [⟨5, []⟩])
 else none
def spec_l5Two.f (k : Nat) (op : Int) (a b : List S49) : Option (List S49) :=
 (spec_l5IsNone.f a).bind fun nA => (spec_l5IsNone.f b).bind fun nB => (spec_l5IsNil.f a).bind fun iA => (spec_l5IsNil.f b).bind fun iB => (spec_l5Same.f k a b).bind fun sm => (spec_l5Own.f k a).bind fun oa => spec_l5None.f.bind fun no =>
 (if oa.length + b.length < 1099511627776 then twoV op nA nB iA iB sm a b else none).bind fun r => if oa.map (fun x => (x.f0, x.f1)) = a.map (fun x => (x.f0, x.f1)) then if no.map (fun x => (x.f0, x.f1)) = [(2, [])] then some r else none else none
theorem re_map : ∀ {a b : List S49}, a.map (fun x => (x.f0, x.f1)) = b.map (fun x => (x.f0, x.f1)) → a = b
 | [], [], _ => rfl
 | [], _ :: _, h => by simp at h
 | _ :: _, [], h => by simp at h
 | ⟨p, q⟩ :: a, ⟨p2, q2⟩ :: b, h => by
  simp only [List.map_cons, List.cons.injEq, Prod.mk.injEq] at h
  rw [h.1.1, h.1.2, re_map h.2]
theorem two_ways {motive : Int → Bool → Bool → Bool → Bool → Bool → Prop} (op : Int) (nA nB iA iB sm : Bool) (hop : op = 3 ∨ op = 4 ∨ op = 5) (a0 : ∀ nB iA iB sm, motive 3 true nB iA iB sm) (a1 : ∀ iA iB sm, motive 3 false true iA iB sm) (a2 : ∀ iB sm, motive 3 false false true iB sm) (a3 : ∀ sm, motive 3 false false false true sm) (a4 : ∀ sm, motive 3 false false false false sm) (b0 : ∀ nB iA iB sm, motive 4 true nB iA iB sm) (b1 : ∀ iA iB sm, motive 4 false true iA iB sm) (b2 : ∀ iA iB, motive 4 false false iA iB true) (b3 : ∀ iA iB, motive 4 false false iA iB false) (c0 : ∀ nB iA iB sm, motive 5 true nB iA iB sm) (c1 : ∀ iA iB sm, motive 5 false true iA iB sm) (c2 : ∀ iA iB, motive 5 false false iA iB true) (c3 : ∀ iA iB, motive 5 false false iA iB false) : motive op nA nB iA iB sm := by
 rcases hop with rfl | rfl | rfl <;> cases nA <;> cases nB <;> cases iA <;> cases iB <;> cases sm <;> first | exact a0 _ _ _ _ | exact a1 _ _ _ | exact a2 _ _ | exact a3 _ | exact a4 _ | exact b0 _ _ _ _ | exact b1 _ _ _ | exact b2 _ _ | exact b3 _ _ | exact c0 _ _ _ _ | exact c1 _ _ _ | exact c2 _ _ | exact c3 _ _
set_option maxHeartbeats 16000000 in
set_option maxRecDepth 100000 in
theorem spec_l5Two.calls (k : Nat) (op : Int) (B : Nat) (A1 : Option Addr) (c1 : Nat) (l1 : List S49) (A2 : Option Addr) (c2 : Nat) (l2 : List S49) (r : List S49) (w : World) (hB : B ≤ w.heap.size) (h1 : Kd.N k49 49 w B (fun k_ => B ≤ k_) (.slice A1 l1.length c1) l1) (h2 : Kd.N k49 49 w B (fun k_ => B ≤ k_) (.slice A2 l2.length c2) l2) (h : spec_l5Two.f k op l1 l2 = some r) :
  Calls Try.prog 96 #[.int .i64 op, .slice A1 l1.length c1, .slice A2 l2.length c2] w fun e w' => ∃ v0_ : Value, e = .returned v0_ ∧ Kd.N k49 49 w' B (fun k_ => B ≤ k_) v0_ r ∧ Below w.heap.size w w' := by
 unfold spec_l5Two.f at h
 obtain ⟨nA, hnA, h⟩ := Option.bind_eq_some_iff.mp h
 obtain ⟨nB, hnB, h⟩ := Option.bind_eq_some_iff.mp h
 obtain ⟨iA, hiA, h⟩ := Option.bind_eq_some_iff.mp h
 obtain ⟨iB, hiB, h⟩ := Option.bind_eq_some_iff.mp h
 obtain ⟨sm, hsm, h⟩ := Option.bind_eq_some_iff.mp h
 obtain ⟨oa, hoa, h⟩ := Option.bind_eq_some_iff.mp h
 obtain ⟨no, hno, h⟩ := Option.bind_eq_some_iff.mp h
 obtain ⟨r', hr, h⟩ := Option.bind_eq_some_iff.mp h
 split at h
 case isFalse => cases h
 rename_i eo
 split at h
 case isFalse => cases h
 rename_i en
 obtain rfl := Option.some.inj h
 have eo' := re_map eo
 have en' : no = [(⟨2, []⟩ : S49)] := re_map en
 subst en'
 have eo2 := eo'.symm
 subst eo2
 clear h eo en eo'
 split at hr
 case isFalse => cases hr
 rename_i hlen
 have hop : op = 3 ∨ op = 4 ∨ op = 5 := by
  unfold twoV at hr
  by_cases e3 : op = 3
  ·exact .inl e3
  by_cases e4 : op = 4
  ·exact .inr (.inl e4)
  by_cases e5 : op = 5
  ·exact .inr (.inr e5)
  ·rw [if_neg e3, if_neg e4, if_neg e5] at hr; cases hr
 have hu49 := Try.underlying49
 have hC1 := (Kd.N_reads' h1).2.2
 have hC2 := (Kd.N_reads' h2).2.2
 have hl1 := (Kd.N_reads' h1).2.1
 have hl2 := (Kd.N_reads' h2).2.1
 have HNA := Aside0.mk (fun (W : World) (hb : Below w.heap.size w W) => spec_l5IsNone.calls A1 c1 l1 nA W (Kd.C_below hC1 hb) hl1 hnA)
 have HNB := Aside0.mk (fun (W : World) (hb : Below w.heap.size w W) => spec_l5IsNone.calls A2 c2 l2 nB W (Kd.C_below hC2 hb) hl2 hnB)
 have HIA := Aside0.mk (fun (W : World) (hb : Below w.heap.size w W) => spec_l5IsNil.calls A1 c1 l1 iA W (Kd.C_below hC1 hb) hl1 hiA)
 have HIB := Aside0.mk (fun (W : World) (hb : Below w.heap.size w W) => spec_l5IsNil.calls A2 c2 l2 iB W (Kd.C_below hC2 hb) hl2 hiB)
 have HSM := Aside0.mk (fun (W : World) (hb : Below w.heap.size w W) => spec_l5Same.calls k A1 c1 l1 A2 c2 l2 sm W (Kd.C_below hC1 hb) hl1 (Kd.C_below hC2 hb) hl2 hsm)
 have HOW := Aside0.mk (fun (W : World) (hb : Below w.heap.size w W) => (spec_l5Own.calls k A1 c1 l1 l1 W (Kd.C_below hC1 hb) hl1 hoa).mono (fun (e : Ending) (w' : World) ⟨v0, he, ho, h⟩ => (⟨v0, he, Kd.N_mono (Kd.N_lower (Kd.S_N (Kd.S_bound ho)) hb.size) (fun k_ hk => Nat.le_trans hb.size hk.2.1), hb.trans (h.mono hb.size)⟩ : ∃ v0 : Value, e = Ending.returned v0 ∧ Kd.N k49 49 w' w.heap.size (fun k_ => w.heap.size ≤ k_) v0 l1 ∧ Below w.heap.size w w')))
 have HNO := Aside0.mk (fun (W : World) (hb : Below w.heap.size w W) => (spec_l5None.calls [(⟨2, []⟩ : S49)] W hno).mono (fun (e : Ending) (w' : World) ⟨v0, he, ho, h⟩ => (⟨v0, he, Kd.N_mono (Kd.N_lower (Kd.S_N (Kd.S_bound ho)) (Nat.le_trans hB hb.size)) (fun k_ hk => Nat.le_trans (Nat.le_trans hB hb.size) hk.2.1), hb.trans (h.mono hb.size)⟩ : ∃ v0 : Value, e = Ending.returned v0 ∧ Kd.N k49 49 w' B (fun k_ => B ≤ k_) v0 [(⟨2, []⟩ : S49)] ∧ Below w.heap.size w w')))
 have H1 := Aside0.mk h1
 have H2 := Aside0.mk h2
 have HB := Aside0.mk hB
 have HLN := Aside0.mk hlen
 clear hC1 hC2 hl1 hl2 h1 h2 hnA hnB hiA hiB hsm hoa hno hB hlen
 refine two_ways (motive := fun op nA nB iA iB sm => twoV op nA nB iA iB sm l1 l2 = some r' → Aside0 (∀ (W : World), Below w.heap.size w W → Calls Try.prog 98 #[.slice A1 l1.length c1] W fun e w' => e = .returned (.bool nA) ∧ Drawn0 W w') → Aside0 (∀ (W : World), Below w.heap.size w W → Calls Try.prog 98 #[.slice A2 l2.length c2] W fun e w' => e = .returned (.bool nB) ∧ Drawn0 W w') → Aside0 (∀ (W : World), Below w.heap.size w W → Calls Try.prog 97 #[.slice A1 l1.length c1] W fun e w' => e = .returned (.bool iA) ∧ Drawn0 W w') → Aside0 (∀ (W : World), Below w.heap.size w W → Calls Try.prog 97 #[.slice A2 l2.length c2] W fun e w' => e = .returned (.bool iB) ∧ Drawn0 W w') → Aside0 (∀ (W : World), Below w.heap.size w W → Calls Try.prog 115 #[.slice A1 l1.length c1, .slice A2 l2.length c2] W fun e w' => e = .returned (.bool sm) ∧ Drawn0 W w') → Calls Try.prog 96 #[.int .i64 op, .slice A1 l1.length c1, .slice A2 l2.length c2] w fun e w' => ∃ v0_ : Value, e = .returned v0_ ∧ Kd.N k49 49 w' B (fun k_ => B ≤ k_) v0_ r' ∧ Below w.heap.size w w') op nA nB iA iB sm hop ?_ ?_ ?_ ?_ ?_ ?_ ?_ ?_ ?_ ?_ ?_ ?_ ?_ hr HNA HNB HIA HIB HSM <;>
  (
   clear hr HNA HNB HIA HIB HSM hop; intros; rename_i hr HNA HNB HIA HIB HSM; simp only [twoV, Int.reduceEq, if_true, if_false, Bool.false_eq_true, reduceIte, Option.some.injEq] at hr; subst hr
   go_enter Try.func96, Try.ntmps96
   go_wp2_with (first | (go_at_call 98; (first | (with_reducible refine (HNA.out _ ?side).mono ?_) | (with_reducible refine (HNB.out _ ?side).mono ?_)); (case side => exact be_); rintro e w' ⟨rfl, ⟨nd, rfl⟩⟩) | (go_at_call 97; (first | (with_reducible refine (HIA.out _ ?side).mono ?_) | (with_reducible refine (HIB.out _ ?side).mono ?_)); (case side => exact be_); rintro e w' ⟨rfl, ⟨nd, rfl⟩⟩) | (go_at_call 115; (first | (with_reducible refine (HSM.out _ ?side).mono ?_)); (case side => exact be_); rintro e w' ⟨rfl, ⟨nd, rfl⟩⟩) | (go_at_call 65; with_reducible refine (HOW.out _ ?side).mono ?_; (case side => exact be_); rintro e w9 ⟨v9, rfl, ho, hb⟩; have HO9 := Aside0.mk ho; have HB9 := Aside0.mk hb; clear ho hb) | ((with_reducible refine gate_builtin (b := .append) (xs := #[.tmp 62, .tmp 63]) rfl ?_); at_builtin; refine Kd.N_append_rows k49 (w0 := w) w.heap.size rfl (.tmp 62) (.tmp 63) 25 49 (.agg #[(.int .i64 0), (.slice none 0 0)]) 32 rfl Try.underlying25 info49 rfl (by decide) (by decide) v9 l1 l2 _ _ _ (fun k_ => B ≤ k_) (fun k_ => B ≤ k_ ∧ k_ < w.heap.size) rfl rfl (Kd.N_mono HO9.out (fun k_ hk => Nat.le_trans HB.out hk)) (Kd.F_below (Kd.N_F (Kd.N_bound H2.out)) HB9.out) (fun k_ hk => ⟨hk.1, fun e => Nat.not_le.2 hk.2 (Kd.N_base HO9.out k_ e.symm)⟩) (fun k_ hk => Nat.le_trans HB.out (Nat.le_trans HB9.out.size hk)) HB9.out HB9.out.size (by have := HLN.out; omega) ?_; intro v10 w10 ho hb hg hat; clear hg hat; have HO10 := Aside0.mk ho; have HB10 := Aside0.mk hb; clear ho hb) | (go_at_call 106; with_reducible refine (HNO.out _ ?side).mono ?_; (case side => exact be_); rintro e w9 ⟨v9, rfl, ho, hb⟩; have HO9 := Aside0.mk ho; have HB9 := Aside0.mk hb; clear ho hb) | ((with_reducible refine gate_dst (N := 67) rfl ?_); refine Kd.N_lit k49 _ 49 ?hg (N' := 67) ?hd (xs := ([(⟨3, []⟩ : S49)])) (inner := [.int .i64 3, .slice none 0 0]) (ok := (fun k_ => w10.heap.size ≤ k_)) (okp := (fun k_ => w10.heap.size ≤ k_)) ?hr ?hp (fun _ hk => hk) (Nat.le_refl _) (Below.refl _ _) (Nat.le_refl _) (by simp) ?_; (case hd => rfl); (case hg => rfl); (case hr => first | (go_simp; done) | (go_simp; rfl)); (case hp => exact (Reps.c2 (show Kd.FK k49 _ _ (⟨3, ([] : List Int)⟩ : S49) [.int .i64 3, .slice none 0 0] from (k49_mkF _ _ (⟨3, ([] : List Int)⟩ : S49) (Nat.le_refl _) (Kd.F_nil _ _ _))) (Reps.none _ _))); intro v11 w11 ho hb hg_ hnew_; clear hg_ hnew_; have HO11 := Aside0.mk ho; have HB11 := Aside0.mk hb; clear ho hb; obtain ⟨A11, c11, eo11⟩ := Kd.N_slice HO11.out; subst eo11) | ((with_reducible refine gate_dst (N := 67) rfl ?_); refine Kd.N_lit k49 _ 49 ?hg (N' := 67) ?hd (xs := ([(⟨4, []⟩ : S49)])) (inner := [.int .i64 4, .slice none 0 0]) (ok := (fun k_ => w10.heap.size ≤ k_)) (okp := (fun k_ => w10.heap.size ≤ k_)) ?hr ?hp (fun _ hk => hk) (Nat.le_refl _) (Below.refl _ _) (Nat.le_refl _) (by simp) ?_; (case hd => rfl); (case hg => rfl); (case hr => first | (go_simp; done) | (go_simp; rfl)); (case hp => exact (Reps.c2 (show Kd.FK k49 _ _ (⟨4, ([] : List Int)⟩ : S49) [.int .i64 4, .slice none 0 0] from (k49_mkF _ _ (⟨4, ([] : List Int)⟩ : S49) (Nat.le_refl _) (Kd.F_nil _ _ _))) (Reps.none _ _))); intro v11 w11 ho hb hg_ hnew_; clear hg_ hnew_; have HO11 := Aside0.mk ho; have HB11 := Aside0.mk hb; clear ho hb; obtain ⟨A11, c11, eo11⟩ := Kd.N_slice HO11.out; subst eo11) | ((with_reducible refine gate_dst (N := 67) rfl ?_); refine Kd.N_lit k49 _ 49 ?hg (N' := 67) ?hd (xs := ([(⟨5, []⟩ : S49)])) (inner := [.int .i64 5, .slice none 0 0]) (ok := (fun k_ => w10.heap.size ≤ k_)) (okp := (fun k_ => w10.heap.size ≤ k_)) ?hr ?hp (fun _ hk => hk) (Nat.le_refl _) (Below.refl _ _) (Nat.le_refl _) (by simp) ?_; (case hd => rfl); (case hg => rfl); (case hr => first | (go_simp; done) | (go_simp; rfl)); (case hp => exact (Reps.c2 (show Kd.FK k49 _ _ (⟨5, ([] : List Int)⟩ : S49) [.int .i64 5, .slice none 0 0] from (k49_mkF _ _ (⟨5, ([] : List Int)⟩ : S49) (Nat.le_refl _) (Kd.F_nil _ _ _))) (Reps.none _ _))); intro v11 w11 ho hb hg_ hnew_; clear hg_ hnew_; have HO11 := Aside0.mk ho; have HB11 := Aside0.mk hb; clear ho hb; obtain ⟨A11, c11, eo11⟩ := Kd.N_slice HO11.out; subst eo11) | ((with_reducible refine gate_builtin (b := .append) (xs := #[.tmp 64, .tmp 67]) rfl ?_); at_builtin; refine Kd.N_append_rows k49 (w0 := w) w.heap.size rfl (.tmp 64) (.tmp 67) 25 49 (.agg #[(.int .i64 0), (.slice none 0 0)]) 32 rfl Try.underlying25 info49 rfl (by decide) (by decide) v10 (l1 ++ l2) [(⟨3, []⟩ : S49)] _ _ _ (fun k_ => B ≤ k_) (fun k_ => w10.heap.size ≤ k_) rfl rfl (Kd.N_below HO10.out HB11.out) (Kd.N_F HO11.out) (fun k_ hk => ⟨Nat.le_trans HB.out (Nat.le_trans HB10.out.size hk), fun e => Nat.not_lt.2 hk (Kd.N_lt HO10.out k_ e.symm)⟩) (fun k_ hk => Nat.le_trans HB.out (Nat.le_trans HB10.out.size (Nat.le_trans HB11.out.size hk))) (HB10.out.trans (HB11.out.mono HB10.out.size)) (Nat.le_trans HB10.out.size HB11.out.size) (by have := HLN.out; simp only [List.length_append, List.length_singleton]; omega) ?_; intro v12 w12 ho hb hg hat; clear hg hat; have HO12 := Aside0.mk ho; have HB12 := Aside0.mk hb; clear ho hb) | ((with_reducible refine gate_builtin (b := .append) (xs := #[.tmp 64, .tmp 67]) rfl ?_); at_builtin; refine Kd.N_append_rows k49 (w0 := w) w.heap.size rfl (.tmp 64) (.tmp 67) 25 49 (.agg #[(.int .i64 0), (.slice none 0 0)]) 32 rfl Try.underlying25 info49 rfl (by decide) (by decide) v10 (l1 ++ l2) [(⟨4, []⟩ : S49)] _ _ _ (fun k_ => B ≤ k_) (fun k_ => w10.heap.size ≤ k_) rfl rfl (Kd.N_below HO10.out HB11.out) (Kd.N_F HO11.out) (fun k_ hk => ⟨Nat.le_trans HB.out (Nat.le_trans HB10.out.size hk), fun e => Nat.not_lt.2 hk (Kd.N_lt HO10.out k_ e.symm)⟩) (fun k_ hk => Nat.le_trans HB.out (Nat.le_trans HB10.out.size (Nat.le_trans HB11.out.size hk))) (HB10.out.trans (HB11.out.mono HB10.out.size)) (Nat.le_trans HB10.out.size HB11.out.size) (by have := HLN.out; simp only [List.length_append, List.length_singleton]; omega) ?_; intro v12 w12 ho hb hg hat; clear hg hat; have HO12 := Aside0.mk ho; have HB12 := Aside0.mk hb; clear ho hb) | ((with_reducible refine gate_builtin (b := .append) (xs := #[.tmp 64, .tmp 67]) rfl ?_); at_builtin; refine Kd.N_append_rows k49 (w0 := w) w.heap.size rfl (.tmp 64) (.tmp 67) 25 49 (.agg #[(.int .i64 0), (.slice none 0 0)]) 32 rfl Try.underlying25 info49 rfl (by decide) (by decide) v10 (l1 ++ l2) [(⟨5, []⟩ : S49)] _ _ _ (fun k_ => B ≤ k_) (fun k_ => w10.heap.size ≤ k_) rfl rfl (Kd.N_below HO10.out HB11.out) (Kd.N_F HO11.out) (fun k_ hk => ⟨Nat.le_trans HB.out (Nat.le_trans HB10.out.size hk), fun e => Nat.not_lt.2 hk (Kd.N_lt HO10.out k_ e.symm)⟩) (fun k_ hk => Nat.le_trans HB.out (Nat.le_trans HB10.out.size (Nat.le_trans HB11.out.size hk))) (HB10.out.trans (HB11.out.mono HB10.out.size)) (Nat.le_trans HB10.out.size HB11.out.size) (by have := HLN.out; simp only [List.length_append, List.length_singleton]; omega) ?_; intro v12 w12 ho hb hg hat; clear hg hat; have HO12 := Aside0.mk ho; have HB12 := Aside0.mk hb; clear ho hb))
   go_ret
   first | exact ⟨_, rfl, HO9.out, HB9.out⟩ | exact ⟨_, rfl, Kd.N_lower HO12.out HB.out, HB12.out⟩ | exact ⟨_, rfl, Kd.N_below H1.out be_, be_⟩ | exact ⟨_, rfl, Kd.N_below H2.out be_, be_⟩)
def lastO (a : List S49) : Int := (rd_T49 a ((a.length : Int) - 1)).f0
def tidy1O (op : Int) (iA nA : Bool) (a : List S49) : Option (List S49) :=
 if op = 6 then some (if iA = true then [⟨1, []⟩] else if nA = true then [⟨1, []⟩] else if lastO a = 6 then a else a ++ [⟨6, []⟩])
 else if op = 7 then some (if lastO a = 7 then a.take (a.length - 1) else a ++ [⟨7, []⟩])
 else none
def spec_l5Tidy.f : Nat → List S49 → Int → Option (List S49)
 | 0, _, _ => none
 | k + 1, p, a1 => if 0 ≤ a1 then (if a1 < (p.length : Int) then ((spec_l5Arity.f k (rd_T49 p a1).f0).bind fun ar =>
   if ar = 0 then spec_l5Own.f k ((p.take (a1 + 1).toNat).drop a1.toNat)
   else if ar = 2 then (spec_l5First.f k p a1).bind fun fi => (spec_l5Tidy.f k p fi).bind fun a => (spec_l5Tidy.f k p (a1 - 1)).bind fun b => spec_l5Two.f k (rd_T49 p a1).f0 a b
   else (spec_l5Tidy.f k p (a1 - 1)).bind fun a => if 0 < a.length then (if a.length < 1099511627776 then (spec_l5IsNil.f a).bind fun iA => (spec_l5IsNone.f a).bind fun nA => tidy1O (rd_T49 p a1).f0 iA nA a else none) else none) else none) else none
/-- What the walk needs of the function one round below. -/
def tidyIH (k : Nat) : Prop := ∀ (A0 : Option Addr) (c0 : Nat) (l0 : List S49) (a1 : Int) (r : List S49) (w : World), Kd.C k49 w A0 l0.length l0 → l0.length ≤ c0 → spec_l5Tidy.f k l0 a1 = some r →
  Calls Try.prog 68 #[.slice A0 l0.length c0, .int .i64 a1] w fun e w' => ∃ v0_ : Value, e = .returned v0_ ∧ Kd.N k49 49 w' w.heap.size (fun k_ => w.heap.size ≤ k_) v0_ r ∧ Below w.heap.size w w'
set_option maxHeartbeats 8000000 in
set_option maxRecDepth 100000 in
theorem tidy_leaf (k : Nat) (ih : tidyIH k) (A0 : Option Addr) (c0 : Nat) (l0 : List S49) (a1 : Int) (r : List S49) (w : World) (hr0 : Kd.C k49 w A0 l0.length l0) (hc0 : l0.length ≤ c0) (h0 : 0 ≤ a1) (h1 : a1 < (l0.length : Int)) (har : spec_l5Arity.f k (rd_T49 l0 a1).f0 = some 0) (ho : spec_l5Own.f k ((l0.take (a1 + 1).toNat).drop a1.toNat) = some r) :
  Calls Try.prog 68 #[.slice A0 l0.length c0, .int .i64 a1] w fun e w' => ∃ v0_ : Value, e = .returned v0_ ∧ Kd.N k49 49 w' w.heap.size (fun k_ => w.heap.size ≤ k_) v0_ r ∧ Below w.heap.size w w' := by
 have hu49 := Try.underlying49
 have hbig : l0.length ≤ 9223372036854775807 := hr0.2.1
 obtain ⟨ad, As, cs, e0, hx0, hx1, hcs, hrow⟩ := at_T49 hr0 a1 h0 h1
 subst e0
 generalize rd_T49 l0 a1 = el at *
 obtain ⟨op, set⟩ := el
 simp only at *
 have hb0 : Below w.heap.size w (w.alloc (.cells #[.int .i64 op, .slice As set.length cs] 49)) := below_alloc (Below.refl _ _) _
 obtain ⟨W0, hW0⟩ : ∃ W0, W0 = w.alloc (.cells #[.int .i64 op, .slice As set.length cs] 49) := ⟨_, rfl⟩
 rw [← hW0] at hb0
 have hsz : W0.heap.size = w.heap.size + 1 := by rw [hW0]; simp
 have hcell : ∀ W1, Below W0.heap.size W0 W1 → W1.cell? ⟨w.heap.size, 0, none⟩ = some (.int .i64 op) := by
  intro W1 hb
  have g1 : W0.cell? ⟨w.heap.size, 0, none⟩ = some (.int .i64 op) := by rw [hW0]; go_simp
  exact (hb.cell (World.block_lt_of_cell? W0 _ g1)).trans g1
 have HB0 := Aside0.mk hb0
 have HSZ := Aside0.mk (show w.heap.size ≤ W0.heap.size by omega)
 have HCell := Aside0.mk hcell
 have HC := Aside0.mk (fun (W : World) (hb : Below W0.heap.size W0 W) => Kd.C_below hr0 (hb0.trans (hb.mono hb0.size)))
 have HC0 := Aside0.mk hc0
 have IH := Aside0.mk ih
 have HW0 := Aside0.mk hW0
 clear hb0 hcell hr0 hc0 ih hsz hcs hrow
 have HAR := Aside0.mk har
 obtain ⟨i0, hi0, _, hsz0, _⟩ := info_parts info49
 have hcut := cut_mid (P := Try.prog) 25 49 .i64 .i64 Try.underlying25 hi0 2 hsz0 (some ad) l0.length c0 a1 (a1 + 1) h0 (by omega) (by omega) HC0.out
 obtain ⟨A11, hA11⟩ : ∃ A1, A1 = (if c0 = (a1 : Int).toNat then (some ad) else ((some ad) : Option Addr).map (·.add ((a1 : Int).toNat * 2))) := ⟨_, rfl⟩
 obtain ⟨c11, hc11⟩ : ∃ c1, c1 = c0 - (a1 : Int).toNat := ⟨_, rfl⟩
 have hy : ((l0.take (a1 + 1).toNat).drop a1.toNat).length = (a1 + 1).toNat - a1.toNat := by rw [List.length_drop, List.length_take]; omega
 have hcl : ((l0.take (a1 + 1).toNat).drop a1.toNat).length ≤ c11 := by rw [hy, hc11]; have := HC0.out; omega
 rw [← hy, ← hA11, ← hc11] at hcut
 have HOWN := Aside0.mk (fun (W : World) (hb : Below W0.heap.size W0 W) => (spec_l5Own.calls k A11 c11 _ r W (by rw [hA11]; exact Kd.C_mid (lo := (a1 : Int).toNat) (hi := (a1 + 1).toNat) (c := c0) (HC.out W hb) (by omega) (by omega) HC0.out) hcl ho).mono (fun (e : Ending) (w' : World) ⟨v0, he, hn, h⟩ => (⟨v0, he, Kd.N_mono (Kd.N_lower (Kd.S_N (Kd.S_bound hn)) (Nat.le_trans HSZ.out hb.size)) (fun k_ hk => Nat.le_trans HSZ.out (Nat.le_trans hb.size hk.2.1)), HB0.out.trans ((hb.trans (h.mono hb.size)).mono HB0.out.size)⟩ : ∃ v0 : Value, e = Ending.returned v0 ∧ Kd.N k49 49 w' w.heap.size (fun k_ => w.heap.size ≤ k_) v0 r ∧ Below w.heap.size w w')))
 generalize ((l0.take (a1 + 1).toNat).drop a1.toNat) = y at *
 have H0 := Aside0.mk h0
 clear har ho hA11 hc11 hy hcl hi0 hsz0 HC0 IH HC
 subst hW0
 go_enter Try.func68, Try.ntmps68
 go_wp2_with (first | (go_at_call 81; with_reducible refine (spec_l5Arity.calls k op _ _ HAR.out).mono ?_; rintro e w' ⟨rfl, ⟨nd, rfl⟩⟩) | (go_at_call 65; with_reducible refine (HOWN.out _ ?side).mono ?_; (case side => exact be_); rintro e w9 ⟨v9, rfl, ho, hb⟩; have HO9 := Aside0.mk ho; have HB9 := Aside0.mk hb; clear ho hb))
 go_ret
 exact ⟨_, rfl, HO9.out, HB9.out⟩
set_option maxHeartbeats 8000000 in
set_option maxRecDepth 100000 in
theorem tidy_two (k : Nat) (ih : tidyIH k) (A0 : Option Addr) (c0 : Nat) (l0 : List S49) (a1 : Int) (fi : Int) (a b r : List S49) (w : World) (hr0 : Kd.C k49 w A0 l0.length l0) (hc0 : l0.length ≤ c0) (h0 : 0 ≤ a1) (h1 : a1 < (l0.length : Int)) (har : spec_l5Arity.f k (rd_T49 l0 a1).f0 = some 2) (hfi : spec_l5First.f k l0 a1 = some fi) (ha : spec_l5Tidy.f k l0 fi = some a) (hb : spec_l5Tidy.f k l0 (a1 - 1) = some b) (ho : spec_l5Two.f k (rd_T49 l0 a1).f0 a b = some r) :
  Calls Try.prog 68 #[.slice A0 l0.length c0, .int .i64 a1] w fun e w' => ∃ v0_ : Value, e = .returned v0_ ∧ Kd.N k49 49 w' w.heap.size (fun k_ => w.heap.size ≤ k_) v0_ r ∧ Below w.heap.size w w' := by
 have hu49 := Try.underlying49
 have hbig : l0.length ≤ 9223372036854775807 := hr0.2.1
 obtain ⟨ad, As, cs, e0, hx0, hx1, hcs, hrow⟩ := at_T49 hr0 a1 h0 h1
 subst e0
 generalize rd_T49 l0 a1 = el at *
 obtain ⟨op, set⟩ := el
 simp only at *
 have hb0 : Below w.heap.size w (w.alloc (.cells #[.int .i64 op, .slice As set.length cs] 49)) := below_alloc (Below.refl _ _) _
 obtain ⟨W0, hW0⟩ : ∃ W0, W0 = w.alloc (.cells #[.int .i64 op, .slice As set.length cs] 49) := ⟨_, rfl⟩
 rw [← hW0] at hb0
 have hsz : W0.heap.size = w.heap.size + 1 := by rw [hW0]; simp
 have hcell : ∀ W1, Below W0.heap.size W0 W1 → W1.cell? ⟨w.heap.size, 0, none⟩ = some (.int .i64 op) := by
  intro W1 hb
  have g1 : W0.cell? ⟨w.heap.size, 0, none⟩ = some (.int .i64 op) := by rw [hW0]; go_simp
  exact (hb.cell (World.block_lt_of_cell? W0 _ g1)).trans g1
 have HB0 := Aside0.mk hb0
 have HSZ := Aside0.mk (show w.heap.size ≤ W0.heap.size by omega)
 have HCell := Aside0.mk hcell
 have HC := Aside0.mk (fun (W : World) (hb : Below W0.heap.size W0 W) => Kd.C_below hr0 (hb0.trans (hb.mono hb0.size)))
 have HC0 := Aside0.mk hc0
 have IH := Aside0.mk ih
 have HW0 := Aside0.mk hW0
 clear hb0 hcell hr0 hc0 ih hsz hcs hrow
 have HAR := Aside0.mk har
 have HFI := Aside0.mk (fun (W : World) (hb : Below W0.heap.size W0 W) => spec_l5First.calls k (some ad) c0 l0 a1 fi W (HC.out W hb) HC0.out hfi)
 have hT : ∀ (x : Int) (xs : List S49), spec_l5Tidy.f k l0 x = some xs → ∀ (W : World), Below W0.heap.size W0 W → Calls Try.prog 68 #[.slice (some ad) l0.length c0, .int .i64 x] W fun e w' => ∃ A c, e = .returned (.slice A xs.length c) ∧ Kd.N k49 49 w' W0.heap.size (fun k_ => W0.heap.size ≤ k_) (.slice A xs.length c) xs ∧ Below W0.heap.size W0 w' ∧ Below W.heap.size W w' := by
  intro x xs hx W hb
  refine (IH.out (some ad) c0 l0 x xs W (HC.out W hb) HC0.out hx).mono ?_
  rintro e w' ⟨v, rfl, hn, h⟩
  obtain ⟨A, c, hvq⟩ := Kd.N_slice hn
  subst hvq
  exact ⟨A, c, rfl, Kd.N_mono (Kd.N_lower hn hb.size) (fun k_ hk => Nat.le_trans hb.size hk), hb.trans (h.mono hb.size), h⟩
 have HTA := Aside0.mk (hT fi a ha)
 have HTB := Aside0.mk (hT (a1 - 1) b hb)
 have HTW := Aside0.mk (fun (W : World) (A1 A2 : Option Addr) (c1 c2 : Nat) (hb : Below W0.heap.size W0 W) (n1 : Kd.N k49 49 W W0.heap.size (fun k_ => W0.heap.size ≤ k_) (.slice A1 a.length c1) a) (n2 : Kd.N k49 49 W W0.heap.size (fun k_ => W0.heap.size ≤ k_) (.slice A2 b.length c2) b) =>
  (spec_l5Two.calls k op W0.heap.size A1 c1 a A2 c2 b r W hb.size n1 n2 ho).mono (fun (e : Ending) (w' : World) ⟨v0, he, hn, h⟩ => (⟨v0, he, Kd.N_mono (Kd.N_lower hn HSZ.out) (fun k_ hk => Nat.le_trans HSZ.out hk), HB0.out.trans ((hb.trans (h.mono hb.size)).mono HB0.out.size), hb.trans (h.mono hb.size)⟩ : ∃ v0 : Value, e = Ending.returned v0 ∧ Kd.N k49 49 w' w.heap.size (fun k_ => w.heap.size ≤ k_) v0 r ∧ Below w.heap.size w w' ∧ Below W0.heap.size W0 w')))
 have hwr : IntKind.i64.wrap (a1 - 1) = a1 - 1 := by rw [i64_w]; unfold wrap64; omega
 clear har hfi ha hb ho hT HC IH HC0
 have hS : W0.cell? ⟨w.heap.size, 0, none⟩ = some (.int .i64 op) := HCell.out _ (Below.refl _ _)
 have HWS := Aside0.mk hW0
 clear hW0
 go_enter Try.func68, Try.ntmps68
 go_wp2_with (first | (go_at_call 81; with_reducible refine (spec_l5Arity.calls k op _ _ HAR.out).mono ?_; rintro e w' ⟨rfl, ⟨nd, rfl⟩⟩))
 rw [← HWS.out]
 have HB1 := Aside0.mk (Below.refl W0.heap.size W0)
 go_region_held3 (fun w' => w'.cell? ⟨w.heap.size, 0, none⟩ = some (.int .i64 op)) (first | go_keep | exact HCell.out _ (by repeat (first | (with_reducible first | exact Below.refl _ _ | exact Aside0.out (by assumption) | apply pw_below_drewN | apply below_drew1 | apply below_alloc)))) ((first
  | (go_at_call 94; with_reducible refine (HFI.out _ ?side).mono ?_; (case side => repeat (first | (with_reducible first | exact Below.refl _ _ | exact Aside0.out (by assumption) | apply pw_below_drewN | apply below_drew1 | apply below_alloc))); rintro e w' ⟨rfl, ⟨nd2, rfl⟩⟩)
  | (go_at_call 68; with_reducible refine (HTA.out _ ?side).mono ?_; (case side => repeat (first | (with_reducible first | exact Below.refl _ _ | exact Aside0.out (by assumption) | apply pw_below_drewN | apply below_drew1 | apply below_alloc))); rintro e w5 ⟨Aa, ca, rfl, ho, hb, hbs⟩; have HNA := Aside0.mk ho; have HB5 := Aside0.mk hb; clear ho hb hbs)
  | (go_at_call 68; with_reducible refine (HTB.out _ ?side).mono ?_; (case side => repeat (first | (with_reducible first | exact Below.refl _ _ | exact Aside0.out (by assumption) | apply pw_below_drewN | apply below_drew1 | apply below_alloc))); rintro e w6 ⟨Ab, cb, rfl, ho, hb, hbs⟩; have HNB := Aside0.mk ho; have HB6 := Aside0.mk hb; have HNA6 := Aside0.mk (Kd.N_below HNA.out hbs); clear ho hb hbs)
  | (go_at_call 96; with_reducible refine (HTW.out _ _ _ _ _ ?s1 ?s2 ?s3).mono ?_; (case s1 => repeat (first | (with_reducible first | exact Below.refl _ _ | exact Aside0.out (by assumption) | apply pw_below_drewN | apply below_drew1 | apply below_alloc))); (case s2 => exact HNA6.out); (case s3 => exact HNB.out); rintro e w7 ⟨v7, rfl, ho, hb, hb7⟩; have HO7 := Aside0.mk ho; have HB7 := Aside0.mk hb; have HB8 := Aside0.mk hb7; clear ho hb hb7)))
 go_wp2
 go_ret
 exact ⟨_, rfl, HO7.out, HB7.out⟩
set_option maxHeartbeats 8000000 in
set_option maxRecDepth 100000 in
theorem tidy_un (k : Nat) (ih : tidyIH k) (A0 : Option Addr) (c0 : Nat) (l0 : List S49) (a1 : Int) (ar : Int) (iA nA : Bool) (a : List S49) (r : List S49) (w : World) (hr0 : Kd.C k49 w A0 l0.length l0) (hc0 : l0.length ≤ c0) (h0 : 0 ≤ a1) (h1 : a1 < (l0.length : Int)) (har : spec_l5Arity.f k (rd_T49 l0 a1).f0 = some ar) (n0 : ¬ ar = 0) (n2 : ¬ ar = 2) (ha : spec_l5Tidy.f k l0 (a1 - 1) = some a) (hlen : 0 < a.length) (hbnd : a.length < 1099511627776) (hiA : spec_l5IsNil.f a = some iA) (hnA : spec_l5IsNone.f a = some nA) (hr : tidy1O (rd_T49 l0 a1).f0 iA nA a = some r) :
  Calls Try.prog 68 #[.slice A0 l0.length c0, .int .i64 a1] w fun e w' => ∃ v0_ : Value, e = .returned v0_ ∧ Kd.N k49 49 w' w.heap.size (fun k_ => w.heap.size ≤ k_) v0_ r ∧ Below w.heap.size w w' := by
 have hu49 := Try.underlying49
 have hbig : l0.length ≤ 9223372036854775807 := hr0.2.1
 obtain ⟨ad, As, cs, e0, hx0, hx1, hcs, hrow⟩ := at_T49 hr0 a1 h0 h1
 subst e0
 generalize rd_T49 l0 a1 = el at *
 obtain ⟨op, set⟩ := el
 simp only at *
 have hb0 : Below w.heap.size w (w.alloc (.cells #[.int .i64 op, .slice As set.length cs] 49)) := below_alloc (Below.refl _ _) _
 obtain ⟨W0, hW0⟩ : ∃ W0, W0 = w.alloc (.cells #[.int .i64 op, .slice As set.length cs] 49) := ⟨_, rfl⟩
 rw [← hW0] at hb0
 have hsz : W0.heap.size = w.heap.size + 1 := by rw [hW0]; simp
 have hcell : ∀ W1, Below W0.heap.size W0 W1 → W1.cell? ⟨w.heap.size, 0, none⟩ = some (.int .i64 op) := by
  intro W1 hb
  have g1 : W0.cell? ⟨w.heap.size, 0, none⟩ = some (.int .i64 op) := by rw [hW0]; go_simp
  exact (hb.cell (World.block_lt_of_cell? W0 _ g1)).trans g1
 have HB0 := Aside0.mk hb0
 have HSZ := Aside0.mk (show w.heap.size ≤ W0.heap.size by omega)
 have HCell := Aside0.mk hcell
 have HC := Aside0.mk (fun (W : World) (hb : Below W0.heap.size W0 W) => Kd.C_below hr0 (hb0.trans (hb.mono hb0.size)))
 have HC0 := Aside0.mk hc0
 have IH := Aside0.mk ih
 have HW0 := Aside0.mk hW0
 clear hb0 hcell hr0 hc0 ih hsz hcs hrow
 have HAR := Aside0.mk har
 have b0 : (ar == 0) = false := by simpa using n0
 have b2 : (ar == 2) = false := by simpa using n2
 clear n0 n2
 have HT := Aside0.mk (fun (W : World) (hb : Below W0.heap.size W0 W) => (IH.out (some ad) c0 l0 (a1 - 1) a W (HC.out W hb) HC0.out ha).mono (fun (e : Ending) (w' : World) ⟨v, he, hn, h⟩ => (⟨v, he, Kd.N_mono (Kd.N_lower hn (Nat.le_trans HSZ.out hb.size)) (fun k_ hk => Nat.le_trans HSZ.out (Nat.le_trans hb.size hk)), hb.trans (h.mono hb.size)⟩ : ∃ v0 : Value, e = Ending.returned v0 ∧ Kd.N k49 49 w' w.heap.size (fun k_ => w.heap.size ≤ k_) v0 a ∧ Below W0.heap.size W0 w')))
 have HIA0 := Aside0.mk hiA
 have HNA0 := Aside0.mk hnA
 have HLEN := Aside0.mk hlen
 have HBND := Aside0.mk hbnd
 clear har ha hiA hnA HC IH HC0
 have HWS := Aside0.mk hW0
 clear hW0
 go_enter Try.func68, Try.ntmps68
 go_wp2_with (first | (go_at_call 81; with_reducible refine (spec_l5Arity.calls k op _ _ HAR.out).mono ?_; rintro e w' ⟨rfl, ⟨nd, rfl⟩⟩))
 rw [← HWS.out]
 refine (HT.out _ be_).mono ?_
 rintro e w5 ⟨va, rfl, ho, hb⟩
 obtain ⟨Aa, ca, hva⟩ := Kd.N_slice ho
 subst hva
 have hC := (Kd.N_reads' ho).2.2
 have hca := (Kd.N_reads' ho).2.1
 have z0 : (0 : Int) ≤ (a.length : Int) - 1 := by omega
 have z1 : (a.length : Int) - 1 < (a.length : Int) := by omega
 obtain ⟨ad2, Al, cl, ea, hy0, _, _, _⟩ := at_T49 hC ((a.length : Int) - 1) z0 z1
 have z2 : (a.length : Int) - 1 ≤ (ca : Int) := by omega
 subst ea
 rw [show ((a.length : Int) - 1).toNat = a.length - 1 from by omega] at hy0
 have HIA := Aside0.mk (fun (W : World) (h : Below w5.heap.size w5 W) => spec_l5IsNil.calls (some ad2) ca a iA W (Kd.C_below hC h) hca HIA0.out)
 have HNA := Aside0.mk (fun (W : World) (h : Below w5.heap.size w5 W) => spec_l5IsNone.calls (some ad2) ca a nA W (Kd.C_below hC h) hca HNA0.out)
 have HN := Aside0.mk ho
 have HB5 := Aside0.mk (HB0.out.trans (hb.mono HB0.out.size))
 have hbox := HCell.out w5 hb
 have HW5 := Aside0.mk (Below.refl w5.heap.size w5)
 unfold tidy1O lastO at hr
 generalize (rd_T49 a ((a.length : Int) - 1)).f0 = lo at *
 clear ho hb hC hca
 have hcase : (op = 6 ∧ iA = true ∧ [⟨1, []⟩] = r) ∨ (op = 6 ∧ iA = false ∧ nA = true ∧ [⟨1, []⟩] = r) ∨ (op = 6 ∧ iA = false ∧ nA = false ∧ lo = 6 ∧ a = r) ∨ (op = 6 ∧ iA = false ∧ nA = false ∧ (lo == 6) = false ∧ a ++ [⟨6, []⟩] = r) ∨ (op = 7 ∧ lo = 7 ∧ a.take (a.length - 1) = r) ∨ (op = 7 ∧ (lo == 7) = false ∧ a ++ [⟨7, []⟩] = r) := by
  by_cases e6 : op = 6
  ·rw [if_pos e6, Option.some.injEq] at hr
   cases iA
   ·cases nA
    ·by_cases hla : lo = 6
     ·exact .inr (.inr (.inl ⟨e6, rfl, rfl, hla, by simpa [hla] using hr⟩))
     ·exact .inr (.inr (.inr (.inl ⟨e6, rfl, rfl, by simpa using hla, by simpa [hla] using hr⟩)))
    ·exact .inr (.inl ⟨e6, rfl, rfl, by simpa using hr⟩)
   ·exact .inl ⟨e6, rfl, by simpa using hr⟩
  ·rw [if_neg e6] at hr
   by_cases e7 : op = 7
   ·rw [if_pos e7, Option.some.injEq] at hr
    by_cases hla : lo = 7
    ·exact .inr (.inr (.inr (.inr (.inl ⟨e7, hla, by simpa [hla] using hr⟩))))
    ·exact .inr (.inr (.inr (.inr (.inr ⟨e7, by simpa using hla, by simpa [hla] using hr⟩))))
   ·rw [if_neg e7] at hr; cases hr
 clear hr
 rcases hcase with ⟨rfl, rfl, rfl⟩ | ⟨rfl, rfl, rfl, rfl⟩ | ⟨rfl, rfl, rfl, rfl, rfl⟩ | ⟨rfl, rfl, rfl, hlb, rfl⟩ | ⟨rfl, rfl, rfl⟩ | ⟨rfl, hlb, rfl⟩ <;>
  (
   go_wp2_with (first | (go_at_call 97; with_reducible refine (HIA.out _ ?side).mono ?_; (case side => exact be_); rintro e w' ⟨rfl, ⟨nd, rfl⟩⟩) | (go_at_call 98; with_reducible refine (HNA.out _ ?side).mono ?_; (case side => exact be_); rintro e w' ⟨rfl, ⟨nd, rfl⟩⟩) | ((with_reducible refine gate_dst (N := 61) rfl ?_); refine Kd.N_lit k49 _ 49 ?hg (N' := 61) ?hd (xs := ([(⟨1, []⟩ : S49)])) (inner := [.int .i64 1, .slice none 0 0]) (ok := (fun k_ => w5.heap.size ≤ k_)) (okp := (fun k_ => w5.heap.size ≤ k_)) ?hr ?hp (fun _ hk => hk) (by first | exact Nat.le_refl _ | exact Below.size be_) (Below.refl _ _) (Nat.le_refl _) (by simp) ?_; (case hd => rfl); (case hg => rfl); (case hr => first | (go_simp; done) | (go_simp; rfl)); (case hp => exact (Reps.c2 (show Kd.FK k49 _ _ (⟨1, ([] : List Int)⟩ : S49) [.int .i64 1, .slice none 0 0] from (k49_mkF _ _ (⟨1, ([] : List Int)⟩ : S49) (Nat.le_refl _) (Kd.F_nil _ _ _))) (Reps.none _ _))); intro v11 w11 ho hb hg_ hnew_; clear hg_ hnew_; have HB11 := Aside0.mk (show Below w5.heap.size w5 w11 from Below.trans be_ hb); have HO11 := Aside0.mk (show Kd.N k49 49 w11 w5.heap.size (fun k_ => w5.heap.size ≤ k_) v11 [(⟨1, []⟩ : S49)] from Kd.N_lower ho (by first | exact Nat.le_refl _ | exact Below.size be_)); clear ho hb; obtain ⟨A11, c11, eo11⟩ := Kd.N_slice HO11.out; subst eo11) | ((with_reducible refine gate_dst (N := 88) rfl ?_); refine Kd.N_lit k49 _ 49 ?hg (N' := 88) ?hd (xs := ([(⟨6, []⟩ : S49)])) (inner := [.int .i64 6, .slice none 0 0]) (ok := (fun k_ => w5.heap.size ≤ k_)) (okp := (fun k_ => w5.heap.size ≤ k_)) ?hr ?hp (fun _ hk => hk) (by first | exact Nat.le_refl _ | exact Below.size be_) (Below.refl _ _) (Nat.le_refl _) (by simp) ?_; (case hd => rfl); (case hg => rfl); (case hr => first | (go_simp; done) | (go_simp; rfl)); (case hp => exact (Reps.c2 (show Kd.FK k49 _ _ (⟨6, ([] : List Int)⟩ : S49) [.int .i64 6, .slice none 0 0] from (k49_mkF _ _ (⟨6, ([] : List Int)⟩ : S49) (Nat.le_refl _) (Kd.F_nil _ _ _))) (Reps.none _ _))); intro v11 w11 ho hb hg_ hnew_; clear hg_ hnew_; have HB11 := Aside0.mk (show Below w5.heap.size w5 w11 from Below.trans be_ hb); have HO11 := Aside0.mk (show Kd.N k49 49 w11 w5.heap.size (fun k_ => w5.heap.size ≤ k_) v11 [(⟨6, []⟩ : S49)] from Kd.N_lower ho (by first | exact Nat.le_refl _ | exact Below.size be_)); clear ho hb; obtain ⟨A11, c11, eo11⟩ := Kd.N_slice HO11.out; subst eo11) | ((with_reducible refine gate_builtin (b := .append) (xs := #[.tmp 84, .tmp 88]) rfl ?_); at_builtin; refine Kd.N_append_rows k49 (w0 := w) w.heap.size rfl (.tmp 84) (.tmp 88) 25 49 (.agg #[(.int .i64 0), (.slice none 0 0)]) 32 rfl Try.underlying25 info49 rfl (by decide) (by decide) (.slice (some ad2) a.length ca) a [(⟨6, []⟩ : S49)] _ _ _ (fun k_ => w.heap.size ≤ k_) (fun k_ => w5.heap.size ≤ k_) rfl rfl (Kd.N_below HN.out HB11.out) (Kd.N_F HO11.out) (fun k_ hk => ⟨Nat.le_trans HB5.out.size hk, fun e => Nat.not_lt.2 hk (Kd.N_lt HN.out k_ e.symm)⟩) (fun k_ hk => Nat.le_trans HB5.out.size (Nat.le_trans HB11.out.size hk)) (HB5.out.trans (HB11.out.mono HB5.out.size)) (Nat.le_trans HB5.out.size HB11.out.size) (by have := HBND.out; simp only [List.length_singleton]; omega) ?_; intro v12 w12 ho hb hg hat; clear hg hat; have HO12 := Aside0.mk ho; have HB12 := Aside0.mk hb; clear ho hb) | ((with_reducible refine gate_dst (N := 88) rfl ?_); refine Kd.N_lit k49 _ 49 ?hg (N' := 88) ?hd (xs := ([(⟨7, []⟩ : S49)])) (inner := [.int .i64 7, .slice none 0 0]) (ok := (fun k_ => w5.heap.size ≤ k_)) (okp := (fun k_ => w5.heap.size ≤ k_)) ?hr ?hp (fun _ hk => hk) (by first | exact Nat.le_refl _ | exact Below.size be_) (Below.refl _ _) (Nat.le_refl _) (by simp) ?_; (case hd => rfl); (case hg => rfl); (case hr => first | (go_simp; done) | (go_simp; rfl)); (case hp => exact (Reps.c2 (show Kd.FK k49 _ _ (⟨7, ([] : List Int)⟩ : S49) [.int .i64 7, .slice none 0 0] from (k49_mkF _ _ (⟨7, ([] : List Int)⟩ : S49) (Nat.le_refl _) (Kd.F_nil _ _ _))) (Reps.none _ _))); intro v11 w11 ho hb hg_ hnew_; clear hg_ hnew_; have HB11 := Aside0.mk (show Below w5.heap.size w5 w11 from Below.trans be_ hb); have HO11 := Aside0.mk (show Kd.N k49 49 w11 w5.heap.size (fun k_ => w5.heap.size ≤ k_) v11 [(⟨7, []⟩ : S49)] from Kd.N_lower ho (by first | exact Nat.le_refl _ | exact Below.size be_)); clear ho hb; obtain ⟨A11, c11, eo11⟩ := Kd.N_slice HO11.out; subst eo11) | ((with_reducible refine gate_builtin (b := .append) (xs := #[.tmp 84, .tmp 88]) rfl ?_); at_builtin; refine Kd.N_append_rows k49 (w0 := w) w.heap.size rfl (.tmp 84) (.tmp 88) 25 49 (.agg #[(.int .i64 0), (.slice none 0 0)]) 32 rfl Try.underlying25 info49 rfl (by decide) (by decide) (.slice (some ad2) a.length ca) a [(⟨7, []⟩ : S49)] _ _ _ (fun k_ => w.heap.size ≤ k_) (fun k_ => w5.heap.size ≤ k_) rfl rfl (Kd.N_below HN.out HB11.out) (Kd.N_F HO11.out) (fun k_ hk => ⟨Nat.le_trans HB5.out.size hk, fun e => Nat.not_lt.2 hk (Kd.N_lt HN.out k_ e.symm)⟩) (fun k_ hk => Nat.le_trans HB5.out.size (Nat.le_trans HB11.out.size hk)) (HB5.out.trans (HB11.out.mono HB5.out.size)) (Nat.le_trans HB5.out.size HB11.out.size) (by have := HBND.out; simp only [List.length_singleton]; omega) ?_; intro v12 w12 ho hb hg hat; clear hg hat; have HO12 := Aside0.mk ho; have HB12 := Aside0.mk hb; clear ho hb))
   go_ret
   first | exact ⟨_, rfl, Kd.N_mono (Kd.N_lower HO11.out HB5.out.size) (fun k_ hk => Nat.le_trans HB5.out.size hk), HB5.out.trans (HB11.out.mono HB5.out.size)⟩ | exact ⟨_, rfl, Kd.N_below HN.out be_, HB5.out.trans (Below.mono be_ HB5.out.size)⟩ | exact ⟨_, rfl, HO12.out, HB12.out⟩ | exact ⟨_, rfl, Kd.N_take (Kd.N_below HN.out be_) (by omega), HB5.out.trans (Below.mono be_ HB5.out.size)⟩)
theorem tidy_all (k : Nat) : tidyIH k := by
 induction k with
 | zero => intro A0 c0 l0 a1 r w _ _ h; simp [spec_l5Tidy.f] at h
 | succ k ih =>
  intro A0 c0 l0 a1 r w hr0 hc0 h
  rw [spec_l5Tidy.f] at h
  split at h
  case isFalse => cases h
  rename_i h0
  split at h
  case isFalse => cases h
  rename_i h1
  obtain ⟨ar, har, h⟩ := Option.bind_eq_some_iff.mp h
  split at h
  case isTrue e0 =>
   subst e0
   exact tidy_leaf k ih A0 c0 l0 a1 r w hr0 hc0 h0 h1 har h
  rename_i n0
  split at h
  case isTrue e2 =>
   subst e2
   obtain ⟨fi, hfi, h⟩ := Option.bind_eq_some_iff.mp h
   obtain ⟨a, ha, h⟩ := Option.bind_eq_some_iff.mp h
   obtain ⟨b, hb, h⟩ := Option.bind_eq_some_iff.mp h
   exact tidy_two k ih A0 c0 l0 a1 fi a b r w hr0 hc0 h0 h1 har hfi ha hb h
  rename_i n2
  obtain ⟨a, ha, h⟩ := Option.bind_eq_some_iff.mp h
  split at h
  case isFalse => cases h
  rename_i hlen
  split at h
  case isFalse => cases h
  rename_i hbnd
  obtain ⟨iA, hiA, h⟩ := Option.bind_eq_some_iff.mp h
  obtain ⟨nA, hnA, h⟩ := Option.bind_eq_some_iff.mp h
  exact tidy_un k ih A0 c0 l0 a1 ar iA nA a r w hr0 hc0 h0 h1 har n0 n2 ha hlen hbnd hiA hnA h
theorem spec_l5Tidy.calls (k : Nat) (A0 : Option Addr) (c0 : Nat) (l0 : List S49) (a1 : Int) (r : List S49) (w : World) (hr0 : Kd.C k49 w A0 l0.length l0) (hc0 : l0.length ≤ c0) (h : spec_l5Tidy.f k l0 a1 = some r) :
  Calls Try.prog 68 #[.slice A0 l0.length c0, .int .i64 a1] w fun e w' => ∃ v0_ : Value, e = .returned v0_ ∧ Kd.N k49 49 w' w.heap.size (fun k_ => w.heap.size ≤ k_) v0_ r ∧ Below w.heap.size w w' := tidy_all k A0 c0 l0 a1 r w hr0 hc0 h

def spec_l4In.l0 : Nat → List Int → Int → Int → Option (Bool)
 | 0, _, _, _ => none
 | k + 1, x0, x1, x5 => if x5 < (x0.length : Int) then (if 0 ≤ x5 then (if 0 ≤ (wrap64 (x5 + 1)) then (if (wrap64 (x5 + 1)) < (x0.length : Int) then ((spec_l1In.f x1 (rd x0 x5) (rd x0 (wrap64 (x5 + 1)))).bind fun t192 => (if t192 = true then (some true) else (spec_l4In.l0 k x0 x1 (wrap64 (x5 + 2))))) else (none)) else (none)) else (none)) else (some false)
def spec_l4In.f (k : Nat) (l0 : List Int) (a1 : Int) : Option (Bool) := spec_l4In.l0 k l0 a1 0
set_option maxHeartbeats 8000000 in
set_option maxRecDepth 100000 in
theorem spec_l4In.calls (k : Nat) (A0 : Option Addr) (c0 : Nat) (l0 : List Int) (a1 : Int) (r : Bool) (w : World) (hr0 : Kd.C (Kd.int .i64) w A0 l0.length l0) (hc0 : l0.length ≤ c0) (h : spec_l4In.f k l0 a1 = some r) :
  Calls Try.prog 100 #[.slice A0 l0.length c0, .int .i64 a1] w fun e w' => e = .returned (.bool r) ∧ Drawn0 w w' := by
 have HR0 := Aside0.mk hr0
 have HC0 := Aside0.mk hc0
 clear hr0 hc0
 have H : (spec_l4In.l0 k l0 a1 0) = some r := h
 clear h
 have H' := Aside0.mk H
 clear H
 go_enter Try.func100, Try.ntmps100
 go_wp2
 repeat (go_quiet (fail); try go_wp2)
 go_loopg [5] k (fun kq v5 w' => ∃ (x5_1 : Int), v5 = .int .i64 x5_1 ∧ Aside0 (spec_l4In.l0 kq l0 a1 x5_1 = some r) ∧ Aside0 (kq ≤ k) ∧ Drawn0 w w')
 case atStart => exact ⟨(0), rs_, H', ⟨Nat.le_refl _⟩, dr_⟩
 case round =>
  clear H'
  try clear c1
  try clear p2
  obtain ⟨x5_1, rfl, HA, HK1, ⟨m1, rfl⟩⟩ := hrel
  cases gk with
  | zero => exact absurd HA.out (by simp [spec_l4In.l0])
  | succ k1 =>
   have H := HA.out
   clear HA
   simp only [spec_l4In.l0] at H
   by_cases c3 : x5_1 < (l0.length : Int)
   ·rw [if_pos c3] at H
    have c3b0 := decide_eq_true c3
    clear c3
    by_cases c4 : 0 ≤ x5_1
    ·rw [if_pos c4] at H
     have c4b0 := decide_eq_true c4
     clear c4
     obtain ⟨ji5, hji5⟩ : ∃ j_ : Int, (wrap64 (x5_1 + 1)) = j_ := ⟨_, rfl⟩
     replace H : (if 0 ≤ (ji5) then (if (ji5) < (l0.length : Int) then ((spec_l1In.f a1 (rd l0 x5_1) (rd l0 (ji5))).bind fun t192 => (if t192 = true then (some true) else (spec_l4In.l0 k1 l0 a1 (wrap64 (x5_1 + 2))))) else (none)) else (none)) = some r := jz_ hji5 H
     have hji5w : (IntKind.i64.wrap (x5_1 + 1)) = ji5 := (i64_w _).trans hji5
     by_cases c6 : 0 ≤ (ji5)
     ·rw [if_pos c6] at H
      have c6b0 := decide_eq_true c6
      clear c6
      by_cases c7 : (ji5) < (l0.length : Int)
      ·rw [if_pos c7] at H
       have c7b0 := decide_eq_true c7
       clear c7
       replace H := Option.bind_eq_some_iff.mp H
       obtain ⟨t192, A80, H⟩ := H
       try dsimp only at H
       have A8 := Aside0.mk A80
       clear A80
       by_cases c9 : t192 = true
       ·subst c9
        have H1 := H
        rw [if_pos rfl] at H1
        clear H
        have H := H1
        clear H1
        obtain rfl := Option.some.inj H
        have p190 : 0 ≤ (x5_1 : Int) := of_decide_eq_true az_
        have q190 : x5_1 < (l0.length : Int) := of_decide_eq_true az_
        obtain ⟨ad190, e190, hx190_0⟩ := Kd.at_int HR0.out x5_1 p190 q190
        cases e190
        replace p190 := eq_true p190
        replace q190 := eq_true q190
        have p191 : 0 ≤ ((ji5) : Int) := of_decide_eq_true az_
        have q191 : (ji5) < (l0.length : Int) := of_decide_eq_true az_
        obtain ⟨ad191, e191, hx191_0⟩ := Kd.at_int HR0.out (ji5) p191 q191
        obtain rfl : ad190 = ad191 := (by injection e191)
        replace p191 := eq_true p191
        replace q191 := eq_true q191
        go_wp2_with (first | (go_at_call 105; (with_reducible refine (spec_l1In.calls a1 (rd l0 x5_1) (rd l0 (ji5)) true _ A8.out).mono ?_); rintro e w' ⟨rfl, ⟨nd, rfl⟩⟩; (try exact dw_)))
        repeat (go_quiet (first | (go_at_call 105; (with_reducible refine (spec_l1In.calls a1 (rd l0 x5_1) (rd l0 (ji5)) true _ A8.out).mono ?_); rintro e w' ⟨rfl, ⟨nd, rfl⟩⟩; (try exact dw_))); try go_wp2_with (first | (go_at_call 105; (with_reducible refine (spec_l1In.calls a1 (rd l0 x5_1) (rd l0 (ji5)) true _ A8.out).mono ?_); rintro e w' ⟨rfl, ⟨nd, rfl⟩⟩; (try exact dw_))))
        go_ret
        exact ⟨by first | rfl | (simp; done) | (simp only [← hji5] <;> (first | rfl | simp)) | (simp [*]; done), dr_⟩
       ·replace c9 := Bool.eq_false_iff.mpr c9
        subst c9
        have H1 := H
        rw [if_neg (show ¬ (false = true) by decide)] at H1
        clear H
        have H := H1
        clear H1
        have H' := Aside0.mk H
        clear H
        have p190 : 0 ≤ (x5_1 : Int) := of_decide_eq_true az_
        have q190 : x5_1 < (l0.length : Int) := of_decide_eq_true az_
        obtain ⟨ad190, e190, hx190_0⟩ := Kd.at_int HR0.out x5_1 p190 q190
        cases e190
        replace p190 := eq_true p190
        replace q190 := eq_true q190
        have p191 : 0 ≤ ((ji5) : Int) := of_decide_eq_true az_
        have q191 : (ji5) < (l0.length : Int) := of_decide_eq_true az_
        obtain ⟨ad191, e191, hx191_0⟩ := Kd.at_int HR0.out (ji5) p191 q191
        obtain rfl : ad190 = ad191 := (by injection e191)
        replace p191 := eq_true p191
        replace q191 := eq_true q191
        go_wp2_with (first | (go_at_call 105; (with_reducible refine (spec_l1In.calls a1 (rd l0 x5_1) (rd l0 (ji5)) false _ A8.out).mono ?_); rintro e w' ⟨rfl, ⟨nd, rfl⟩⟩; (try exact dw_)))
        repeat (go_quiet (first | (go_at_call 105; (with_reducible refine (spec_l1In.calls a1 (rd l0 x5_1) (rd l0 (ji5)) false _ A8.out).mono ?_); rintro e w' ⟨rfl, ⟨nd, rfl⟩⟩; (try exact dw_))); try go_wp2_with (first | (go_at_call 105; (with_reducible refine (spec_l1In.calls a1 (rd l0 x5_1) (rd l0 (ji5)) false _ A8.out).mono ?_); rintro e w' ⟨rfl, ⟨nd, rfl⟩⟩; (try exact dw_))))
        go_roundg k1
        case measure => have := HK1.out; omega
        case rel => exact ⟨(wrap64 (x5_1 + 2)), rs_, H', ⟨by have := HK1.out; omega⟩, dr_⟩
      ·rw [if_neg c7] at H
       exact absurd H (by simp)
     ·rw [if_neg c6] at H
      exact absurd H (by simp)
    ·rw [if_neg c4] at H
     exact absurd H (by simp)
   ·rw [if_neg c3] at H
    have c3b0 := decide_eq_false c3
    (try rw [hl0_1] at c3b0)
    clear c3
    obtain rfl := Option.some.inj H
    go_wp2
    repeat (go_quiet (fail); try go_wp2)
    go_ret
    exact ⟨rs_, dr_⟩

end Go.Proofs.Ytlmpeaelpchokaa.HFnExactDerivRe
