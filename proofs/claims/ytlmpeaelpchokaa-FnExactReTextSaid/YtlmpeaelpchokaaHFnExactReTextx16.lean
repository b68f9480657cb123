/- Written by wip/pr.py of this session, for the law FnExactReText: Lean functions with the answers of the program's, and the proofs of that; where the kit's print has no word, by hand. -/
import Derived.Test.YtlmpeaelpchokaaHFnExactReTextx0
namespace Go.Proofs.Ytlmpeaelpchokaa.HFnExactReText
open Go.RowKit Go.Proofs.YtlmpeaelpchokaaW.PrintWords Go.Proofs.YtlmpeaelpchokaaW.PrintLast Go.Proofs.YtlmpeaelpchokaaW.PrintMore
attribute [local go_sem] max2_int min2_int max_two min_two max_three min_three max_four min_four   -- for this text's walks alone
set_option linter.unusedVariables false
set_option linter.unusedSimpArgs false

/-! ### slices_Equal_int_int: function 127 -/
def slices_Equal_int_int.l0 : Nat → List Int → List Int → Int → Int → Option (Bool)
  | 0, _, _, _, _ => none
  | k + 1, x0, x1, x12, x13 => if x13 < x12 then (if 0 ≤ x13 then (if x13 < (x0.length : Int) then (if x13 < (x1.length : Int) then (if (rd x0 x13) = (rd x1 x13) then (slices_Equal_int_int.l0 k x0 x1 x12 (wrap64 (x13 + 1))) else (some false)) else (none)) else (none)) else (none)) else (some true)
def slices_Equal_int_int.f (k : Nat) (l0 : List Int) (l1 : List Int) : Option (Bool) := if (l0.length : Int) = (l1.length : Int) then (slices_Equal_int_int.l0 k l0 l1 (l0.length : Int) 0) else (some false)
theorem slices_Equal_int_int.mono_l : ∀ k, (∀ y0 y1 y2 y3, LeO (slices_Equal_int_int.l0 k y0 y1 y2 y3) (slices_Equal_int_int.l0 (k + 1) y0 y1 y2 y3))
  | 0 => fun _ _ _ _ r h => by simp [slices_Equal_int_int.l0] at h
  | k + 1 => by
    have ih0 := slices_Equal_int_int.mono_l k
    · intro y0 y1 y2 y3
      unfold slices_Equal_int_int.l0
      repeat' first
      | (with_reducible exact ih0 _ _ _ _)
      | (with_reducible exact LeO.refl _)
      | (with_reducible exact LeO.none _)
      | (with_reducible refine LeO.ite ?_ ?_)
      | (with_reducible refine LeO.bind ?_ (fun _ => ?_))
      | exact ih0 _ _ _ _
      | exact LeO.none _
      | refine LeO.ite ?_ ?_
      | refine LeO.bind ?_ (fun _ => ?_)
theorem slices_Equal_int_int.mono : ∀ a0 a1 k, LeO (slices_Equal_int_int.f k a0 a1) (slices_Equal_int_int.f (k + 1) a0 a1) := by
  intro a0 a1 k
  have ih0 := slices_Equal_int_int.mono_l k
  unfold slices_Equal_int_int.f
  repeat' first
      | (with_reducible exact ih0 _ _ _ _)
      | (with_reducible exact LeO.refl _)
      | (with_reducible exact LeO.none _)
      | (with_reducible refine LeO.ite ?_ ?_)
      | (with_reducible refine LeO.bind ?_ (fun _ => ?_))
      | exact ih0 _ _ _ _
      | exact LeO.none _
      | refine LeO.ite ?_ ?_
      | refine LeO.bind ?_ (fun _ => ?_)
set_option maxHeartbeats 8000000 in
set_option maxRecDepth 100000 in
theorem slices_Equal_int_int.calls (k : Nat) (A0 : Option Addr) (c0 : Nat) (l0 : List Int) (A1 : Option Addr) (c1 : Nat) (l1 : List Int) (r : Bool) (w : World) (hr0 : Kd.C (Kd.int .i64) w A0 l0.length l0) (hc0 : l0.length ≤ c0) (hr1 : Kd.C (Kd.int .i64) w A1 l1.length l1) (hc1 : l1.length ≤ c1) (h : slices_Equal_int_int.f k l0 l1 = some r) :
    Calls Try.prog 127 #[.slice A0 l0.length c0, .slice A1 l1.length c1] w fun e w' => e = .returned (.bool r) ∧ Drawn0 w w' := by
  have HR0 := Aside0.mk hr0
  have HC0 := Aside0.mk hc0
  clear hr0 hc0
  have HR1 := Aside0.mk hr1
  have HC1 := Aside0.mk hc1
  clear hr1 hc1
  have H : (if (l0.length : Int) = (l1.length : Int) then (slices_Equal_int_int.l0 k l0 l1 (l0.length : Int) 0) else (some false)) = some r := h
  clear h
  by_cases c3 : (l0.length : Int) = (l1.length : Int)
  · rw [if_pos c3] at H
    have c3b0 : ((l0.length : Int) == (l1.length : Int)) = true := beq_iff_eq.mpr c3
    have c3b1 : ((l0.length : Int) != (l1.length : Int)) = false := bne_eq_false_iff_eq.mpr c3
    have c3b2 : (l0.length == l1.length) = true := by first | simpa using c3 | (simp at c3 ⊢; omega)
    clear c3
    have H' := Aside0.mk H
    clear H
    go_enter Try.func127, Try.ntmps127
    go_wp2
    repeat (go_quiet (fail); try go_wp2)
    go_loopg [13] k (fun kq v13 w' => ∃ (x13_1 : Int), v13 = .int .i64 x13_1 ∧ Aside0 (slices_Equal_int_int.l0 kq l0 l1 (l0.length : Int) x13_1 = some r) ∧ Aside0 (kq ≤ k) ∧ Drawn0 w w')
    case atStart => exact ⟨(0), (by first | rfl | (simp; done) | (simp [*]; done)), H', ⟨Nat.le_refl _⟩, by repeat (first | exact Drawn0.refl _ | apply Drawn0.step)⟩
    case round =>
      clear H'
      try clear c1
      try clear p2
      try clear c3
      try clear c3b0
      try clear c3b1
      try clear c3b2
      obtain ⟨x13_1, rfl, HA, HK1, ⟨m1, rfl⟩⟩ := hrel
      cases gk with
      | zero => exact absurd HA.out (by simp [slices_Equal_int_int.l0])
      | succ k1 =>
        have H := HA.out
        clear HA
        simp only [slices_Equal_int_int.l0] at H
        by_cases c4 : x13_1 < (l0.length : Int)
        · rw [if_pos c4] at H
          have c4b0 : decide (x13_1 < (l0.length : Int)) = true := decide_eq_true c4
          clear c4
          by_cases c5 : 0 ≤ x13_1
          · rw [if_pos c5] at H
            have c5b0 : decide (0 ≤ x13_1) = true := decide_eq_true c5
            clear c5
            by_cases c6 : x13_1 < (l0.length : Int)
            · rw [if_pos c6] at H
              have c6b0 : decide (x13_1 < (l0.length : Int)) = true := decide_eq_true c6
              clear c6
              by_cases c7 : x13_1 < (l1.length : Int)
              · rw [if_pos c7] at H
                have c7b0 : decide (x13_1 < (l1.length : Int)) = true := decide_eq_true c7
                clear c7
                by_cases c8 : (rd l0 x13_1) = (rd l1 x13_1)
                · rw [if_pos c8] at H
                  have c8b0 : ((rd l0 x13_1) == (rd l1 x13_1)) = true := beq_iff_eq.mpr c8
                  have c8b1 : ((rd l0 x13_1) != (rd l1 x13_1)) = false := bne_eq_false_iff_eq.mpr c8
                  clear c8
                  have H' := Aside0.mk H
                  clear H
                  have p378 : 0 ≤ (x13_1 : Int) := of_decide_eq_true (by first | (with_reducible assumption) | assumption)
                  have q378 : x13_1 < (l0.length : Int) := of_decide_eq_true (by first | (with_reducible assumption) | assumption)
                  obtain ⟨ad378, e378, hx378_0⟩ := Kd.at_int HR0.out x13_1 p378 q378
                  cases e378
                  replace p378 := eq_true p378
                  replace q378 := eq_true q378
                  have p379 : 0 ≤ (x13_1 : Int) := of_decide_eq_true (by first | (with_reducible assumption) | assumption)
                  have q379 : x13_1 < (l1.length : Int) := of_decide_eq_true (by first | (with_reducible assumption) | assumption)
                  obtain ⟨ad379, e379, hx379_0⟩ := Kd.at_int HR1.out x13_1 p379 q379
                  cases e379
                  replace p379 := eq_true p379
                  replace q379 := eq_true q379
                  go_wp2
                  repeat (go_quiet (fail); try go_wp2)
                  go_roundg k1
                  case measure => have := HK1.out; omega
                  case rel => exact ⟨(wrap64 (x13_1 + 1)), (by first | rfl | (simp; done) | (simp [*]; done)), H', ⟨by have := HK1.out; omega⟩, by repeat (first | exact Drawn0.refl _ | apply Drawn0.step)⟩
                · rw [if_neg c8] at H
                  have c8b0 : ((rd l0 x13_1) == (rd l1 x13_1)) = false := beq_eq_false_iff_ne.mpr c8
                  have c8b1 : ((rd l0 x13_1) != (rd l1 x13_1)) = true := bne_iff_ne.mpr c8
                  obtain rfl := Option.some.inj H
                  have p378 : 0 ≤ (x13_1 : Int) := of_decide_eq_true (by first | (with_reducible assumption) | assumption)
                  have q378 : x13_1 < (l0.length : Int) := of_decide_eq_true (by first | (with_reducible assumption) | assumption)
                  obtain ⟨ad378, e378, hx378_0⟩ := Kd.at_int HR0.out x13_1 p378 q378
                  cases e378
                  replace p378 := eq_true p378
                  replace q378 := eq_true q378
                  have p379 : 0 ≤ (x13_1 : Int) := of_decide_eq_true (by first | (with_reducible assumption) | assumption)
                  have q379 : x13_1 < (l1.length : Int) := of_decide_eq_true (by first | (with_reducible assumption) | assumption)
                  obtain ⟨ad379, e379, hx379_0⟩ := Kd.at_int HR1.out x13_1 p379 q379
                  cases e379
                  replace p379 := eq_true p379
                  replace q379 := eq_true q379
                  go_wp2
                  repeat (go_quiet (fail); try go_wp2)
                  go_ret
                  exact ⟨by first | rfl | (simp; done) | (simp [*]; done), by repeat (first | exact Drawn0.refl _ | apply Drawn0.step)⟩
              · rw [if_neg c7] at H
                exact absurd H (by simp)
            · rw [if_neg c6] at H
              exact absurd H (by simp)
          · rw [if_neg c5] at H
            exact absurd H (by simp)
        · rw [if_neg c4] at H
          have c4b0 : decide (x13_1 < (l0.length : Int)) = false := decide_eq_false c4
          (try rw [hl0_1] at c4b0)
          clear c4
          obtain rfl := Option.some.inj H
          go_wp2
          repeat (go_quiet (fail); try go_wp2)
          go_ret
          exact ⟨by first | rfl | (simp; done) | (simp [*]; done), by repeat (first | exact Drawn0.refl _ | apply Drawn0.step)⟩
  · rw [if_neg c3] at H
    have c3b0 : ((l0.length : Int) == (l1.length : Int)) = false := beq_eq_false_iff_ne.mpr c3
    have c3b1 : ((l0.length : Int) != (l1.length : Int)) = true := bne_iff_ne.mpr c3
    have c3b2 : (l0.length == l1.length) = false := by first | simpa using c3 | (simp at c3 ⊢; omega)
    obtain rfl := Option.some.inj H
    go_enter Try.func127, Try.ntmps127
    go_wp2
    repeat (go_quiet (fail); try go_wp2)
    go_ret
    exact ⟨by first | rfl | (simp; done) | (simp [*]; done), by repeat (first | exact Drawn0.refl _ | apply Drawn0.step)⟩

/-! ### impl_isMarkOf: function 138 -/
def lContains_ren : Go.Shelf.Ren := ⟨fun | 151 => 151 | 152 => 158 | 137 => 161 | 119 => 162 | 224 => 163 | 225 => 164 | 217 => 165 | 266 => 166 | n => n, fun | 9 => 9 | 21 => 21 | 4 => 4 | 3 => 3 | 5 => 5 | 0 => 0 | 46 => 109 | n => n, fun | n => n⟩
theorem lContains : Go.Proofs.Lays.n151 Try.prog lContains_ren := {
  mixed := by kernel_rfl
  f119 := Try.func162.trans (congrArg some (by kernel_rfl))
  f137 := Try.func161.trans (congrArg some (by kernel_rfl))
  f151 := Try.func151.trans (congrArg some (by kernel_rfl))
  f152 := Try.func158.trans (congrArg some (by kernel_rfl))
  f217 := Try.func165.trans (congrArg some (by kernel_rfl))
  f224 := Try.func163.trans (congrArg some (by kernel_rfl))
  f225 := Try.func164.trans (congrArg some (by kernel_rfl))
  f266 := Try.func166.trans (congrArg some (by kernel_rfl))
  t0 := Try.underlying0
  a0 := Try.isAgg0
  z0 := Try.sizeOf0
  v0 := Try.zeroValue0
  t3 := Try.underlying3
  a3 := Try.isAgg3
  z3 := Try.sizeOf3
  v3 := Try.zeroValue3
  t4 := Try.underlying4
  a4 := Try.isAgg4
  z4 := Try.sizeOf4
  v4 := Try.zeroValue4
  t5 := Try.underlying5
  a5 := Try.isAgg5
  z5 := Try.sizeOf5
  v5 := Try.zeroValue5
  t9 := Try.underlying9
  a9 := Try.isAgg9
  z9 := Try.sizeOf9
  v9 := Try.zeroValue9
  t21 := Try.underlying21
  a21 := Try.isAgg21
  z21 := Try.sizeOf21
  v21 := Try.zeroValue21
  t46 := Try.underlying109
  a46 := Try.isAgg109
  z46 := Try.sizeOf109
  v46 := Try.zeroValue109 }
def marksA : Array UInt8 := #[40, 41, 91, 93, 124, 38, 126, 42, 46, 45, 92]
def marksI : List Int := [40, 41, 91, 93, 124, 38, 126, 42, 46, 45, 92]
def impl_isMarkOf.f (a0 : ByteArray) (a1 : Int) : Option (Bool) :=
  if a0.data = marksA then (if 0 ≤ a1 then (if a1 ≤ 1114111 then (if 55296 ≤ a1 ∧ a1 ≤ 57343 then none else some (decide (a1 ∈ marksI))) else none) else none) else none
theorem marks_ascii : ∀ r : Fin 128, decide (0 ≤ Lib.indexByte marksA.toList r.val.toUInt8) = decide (((r.val : Nat) : Int) ∈ marksI) := by decide +kernel
theorem marks_none (k : Nat) (hk : k ≤ 4) (c : UInt8) (hc : 128 ≤ c.toNat) : Lib.indexByte (marksA.toList.drop k) c = -1 := by
  have : ∀ k : Fin 5, ∀ c : Fin 256, 128 ≤ c.val → Lib.indexByte (marksA.toList.drop k.val) (UInt8.ofNat c.val) = -1 := by decide +kernel
  have h := this ⟨k, by omega⟩ ⟨c.toNat, UInt8.toNat_lt c⟩ hc
  simpa using h
theorem quiet_add_left {P : Program} {f : FuncId} {args : Array Value} {w : World} {a n : Nat} {v : Value}
    (h : Calls P f args (w.drewN (a + n)) fun e w' => e = .returned v ∧ w.drewN (a + n) = w') :
    Calls P f args (w.drewN (a + n)) fun e w'' => e = .returned v ∧ ∃ m, w'' = w.drewN (a + m) :=
  h.mono fun _ _ ⟨he, hm⟩ => ⟨he, n, hm.symm⟩
set_option maxHeartbeats 8000000 in
set_option maxRecDepth 1000000 in
theorem indexRune_high2 (s E : ByteArray) (r : Int) (w : World) (h0 : 128 ≤ r) (h1 : r ≤ 1114111) (hb : r ≠ 65533) (y x : UInt8) (hE : Utf8.encode r = E) (hz : (E.size : Int) = 2) (hz1 : 1 < E.size) (hx : E[1]'hz1 = x) (hs : (s.size : Int) = 11) (hs1 : 1 < s.size) (hy : s[1]'hs1 = y) (hne : ((y.toNat : Int) == (x.toNat : Int)) = false)
    (hV : ∀ W : World, Calls Try.prog 162 #[.int .i32 r] W fun e w' => e = .returned (.bool true) ∧ W = w') (hI : ∀ W : World, Calls Try.prog 161 #[.string (s.extract 2 s.size), .int .u8 (x.toNat : Int)] W fun e w' => e = .returned (.int .i64 (-1)) ∧ W = w') :
    Calls Try.prog 158 #[.string s, .int .i32 r] w fun e w' => e = .returned (.int .i64 (-1)) ∧ Below w.heap.size w w' := by
  have c1 : decide (r < 128) = false := decide_eq_false (by omega)
  have c2 : (r == 65533) = false := beq_eq_false_iff_ne.mpr hb
  have c3 : decide (0 ≤ r) = true := decide_eq_true (by omega)
  have hne2 : ((y.toNat : Int) != (x.toNat : Int)) = true := by rw [bne, hne]; rfl
  go_enter Try.func158, Try.ntmps158
  go_wp2_with (first | (go_at_call 162; (with_reducible refine (hV _).mono ?_); rintro e w' ⟨rfl, rfl⟩) | (go_at_call 161; (with_reducible refine (hI _).mono ?_); rintro e w' ⟨rfl, rfl⟩))
  go_step3
  go_wp2
  go_loop [9, 10] (fun i j => i = .int .i64 1 ∧ j = .int .i64 0) (fun _ _ => 0)
  case atStart => exact ⟨by first | rfl | simp, by first | rfl | simp⟩
  case round =>
    obtain ⟨rfl, rfl⟩ := hrel
    go_wp2
    go_step3
    go_wp2
    go_quiet (fail)
    go_wp2
    have e2 : IntKind.i64.wrap 2 = 2 := by decide
    have t2 : ((2 : Int)).toNat = 2 := rfl
    go_quiet ((go_at_call 161; exact quiet_add_left (hI _)))
    go_wp2
    rw [Exit.noGoto_ret]
    go_wp2
    (repeat rw [Exit.noGoto_ret])
    go_ret
    exact ⟨rfl, by repeat (first | (with_reducible first | exact Below.refl _ _ | apply pw_below_drewN | apply below_drew1 | apply below_alloc))⟩
set_option maxHeartbeats 8000000 in
set_option maxRecDepth 1000000 in
theorem indexRune_high3 (s E : ByteArray) (r : Int) (w : World) (h0 : 128 ≤ r) (h1 : r ≤ 1114111) (hb : r ≠ 65533) (y x : UInt8) (hE : Utf8.encode r = E) (hz : (E.size : Int) = 3) (hz1 : 2 < E.size) (hx : E[2]'hz1 = x) (hs : (s.size : Int) = 11) (hs1 : 2 < s.size) (hy : s[2]'hs1 = y) (hne : ((y.toNat : Int) == (x.toNat : Int)) = false)
    (hV : ∀ W : World, Calls Try.prog 162 #[.int .i32 r] W fun e w' => e = .returned (.bool true) ∧ W = w') (hI : ∀ W : World, Calls Try.prog 161 #[.string (s.extract 3 s.size), .int .u8 (x.toNat : Int)] W fun e w' => e = .returned (.int .i64 (-1)) ∧ W = w') :
    Calls Try.prog 158 #[.string s, .int .i32 r] w fun e w' => e = .returned (.int .i64 (-1)) ∧ Below w.heap.size w w' := by
  have c1 : decide (r < 128) = false := decide_eq_false (by omega)
  have c2 : (r == 65533) = false := beq_eq_false_iff_ne.mpr hb
  have c3 : decide (0 ≤ r) = true := decide_eq_true (by omega)
  have hne2 : ((y.toNat : Int) != (x.toNat : Int)) = true := by rw [bne, hne]; rfl
  go_enter Try.func158, Try.ntmps158
  go_wp2_with (first | (go_at_call 162; (with_reducible refine (hV _).mono ?_); rintro e w' ⟨rfl, rfl⟩) | (go_at_call 161; (with_reducible refine (hI _).mono ?_); rintro e w' ⟨rfl, rfl⟩))
  go_step3
  go_wp2
  go_loop [9, 10] (fun i j => i = .int .i64 2 ∧ j = .int .i64 0) (fun _ _ => 0)
  case atStart => exact ⟨by first | rfl | simp, by first | rfl | simp⟩
  case round =>
    obtain ⟨rfl, rfl⟩ := hrel
    go_wp2
    go_step3
    go_wp2
    go_quiet (fail)
    go_wp2
    have e2 : IntKind.i64.wrap 3 = 3 := by decide
    have t2 : ((3 : Int)).toNat = 3 := rfl
    go_quiet ((go_at_call 161; exact quiet_add_left (hI _)))
    go_wp2
    rw [Exit.noGoto_ret]
    go_wp2
    (repeat rw [Exit.noGoto_ret])
    go_ret
    exact ⟨rfl, by repeat (first | (with_reducible first | exact Below.refl _ _ | apply pw_below_drewN | apply below_drew1 | apply below_alloc))⟩
set_option maxHeartbeats 8000000 in
set_option maxRecDepth 1000000 in
theorem indexRune_high4 (s E : ByteArray) (r : Int) (w : World) (h0 : 128 ≤ r) (h1 : r ≤ 1114111) (hb : r ≠ 65533) (y x : UInt8) (hE : Utf8.encode r = E) (hz : (E.size : Int) = 4) (hz1 : 3 < E.size) (hx : E[3]'hz1 = x) (hs : (s.size : Int) = 11) (hs1 : 3 < s.size) (hy : s[3]'hs1 = y) (hne : ((y.toNat : Int) == (x.toNat : Int)) = false)
    (hV : ∀ W : World, Calls Try.prog 162 #[.int .i32 r] W fun e w' => e = .returned (.bool true) ∧ W = w') (hI : ∀ W : World, Calls Try.prog 161 #[.string (s.extract 4 s.size), .int .u8 (x.toNat : Int)] W fun e w' => e = .returned (.int .i64 (-1)) ∧ W = w') :
    Calls Try.prog 158 #[.string s, .int .i32 r] w fun e w' => e = .returned (.int .i64 (-1)) ∧ Below w.heap.size w w' := by
  have c1 : decide (r < 128) = false := decide_eq_false (by omega)
  have c2 : (r == 65533) = false := beq_eq_false_iff_ne.mpr hb
  have c3 : decide (0 ≤ r) = true := decide_eq_true (by omega)
  have hne2 : ((y.toNat : Int) != (x.toNat : Int)) = true := by rw [bne, hne]; rfl
  go_enter Try.func158, Try.ntmps158
  go_wp2_with (first | (go_at_call 162; (with_reducible refine (hV _).mono ?_); rintro e w' ⟨rfl, rfl⟩) | (go_at_call 161; (with_reducible refine (hI _).mono ?_); rintro e w' ⟨rfl, rfl⟩))
  go_step3
  go_wp2
  go_loop [9, 10] (fun i j => i = .int .i64 3 ∧ j = .int .i64 0) (fun _ _ => 0)
  case atStart => exact ⟨by first | rfl | simp, by first | rfl | simp⟩
  case round =>
    obtain ⟨rfl, rfl⟩ := hrel
    go_wp2
    go_step3
    go_wp2
    go_quiet (fail)
    go_wp2
    have e2 : IntKind.i64.wrap 4 = 4 := by decide
    have t2 : ((4 : Int)).toNat = 4 := rfl
    go_quiet ((go_at_call 161; exact quiet_add_left (hI _)))
    go_wp2
    rw [Exit.noGoto_ret]
    go_wp2
    (repeat rw [Exit.noGoto_ret])
    go_ret
    exact ⟨rfl, by repeat (first | (with_reducible first | exact Below.refl _ _ | apply pw_below_drewN | apply below_drew1 | apply below_alloc))⟩
theorem validRune_yes (r : Int) (w : World) (h0 : 0 ≤ r) (h1 : r ≤ 1114111) (hg : r < 55296 ∨ 57343 < r) :
    Calls Try.prog 162 #[.int .i32 r] w fun e w' => e = .returned (.bool true) ∧ w = w' := by
  have c0 : decide (0 ≤ r) = true := decide_eq_true h0
  rcases hg with h | h
  · have c1 : decide (r < 55296) = true := decide_eq_true h
    clear h
    go_enter Try.func162, Try.ntmps162
    go_wp2
    go_ret
    exact ⟨rfl, rfl⟩
  · have c1 : decide (r < 55296) = false := decide_eq_false (by omega)
    have c2 : decide (57343 < r) = true := decide_eq_true h
    have c3 : decide (r ≤ 1114111) = true := decide_eq_true h1
    clear h
    go_enter Try.func162, Try.ntmps162
    go_wp2
    go_ret
    exact ⟨rfl, rfl⟩
theorem encode_last (r : Int) (h0 : 128 ≤ r) (h1 : r ≤ 1114111) (hg : r < 55296 ∨ 57343 < r) :
    ∃ n : Nat, (n = 2 ∨ n = 3 ∨ n = 4) ∧ ∃ hz : (Utf8.encode r).size = n, ∀ h : n - 1 < (Utf8.encode r).size, 128 ≤ ((Utf8.encode r)[n - 1]'h).toNat := by
  obtain ⟨m, rfl⟩ := Int.eq_ofNat_of_zero_le (show 0 ≤ r by omega)
  have hv : Utf8.valid (m : Int) = true := by
    unfold Utf8.valid
    simp only [Bool.or_eq_true, Bool.and_eq_true, decide_eq_true_eq]
    omega
  have last : 128 ≤ (UInt8.ofNat (128 + m % 64)).toNat := by rw [UInt8.toNat_ofNat']; omega
  by_cases c2 : m < 2048
  · have e : Utf8.encode (m : Int) = ⟨#[UInt8.ofNat (192 + m / 64), UInt8.ofNat (128 + m % 64)]⟩ := by
      unfold Utf8.encode
      simp only [hv, if_true, Int.toNat_natCast]
      rw [if_neg (by omega), if_pos c2]
    rw [e]
    exact ⟨2, Or.inl rfl, rfl, fun _ => last⟩
  · by_cases c3 : m < 65536
    · have e : Utf8.encode (m : Int) = ⟨#[UInt8.ofNat (224 + m / 4096), UInt8.ofNat (128 + m / 64 % 64), UInt8.ofNat (128 + m % 64)]⟩ := by
        unfold Utf8.encode
        simp only [hv, if_true, Int.toNat_natCast]
        rw [if_neg (by omega), if_neg c2, if_pos c3]
      rw [e]
      exact ⟨3, Or.inr (Or.inl rfl), rfl, fun _ => last⟩
    · have e : Utf8.encode (m : Int) = ⟨#[UInt8.ofNat (240 + m / 262144), UInt8.ofNat (128 + m / 4096 % 64), UInt8.ofNat (128 + m / 64 % 64), UInt8.ofNat (128 + m % 64)]⟩ := by
        unfold Utf8.encode
        simp only [hv, if_true, Int.toNat_natCast]
        rw [if_neg (by omega), if_neg c2, if_neg c3]
      rw [e]
      exact ⟨4, Or.inr (Or.inr rfl), rfl, fun _ => last⟩
theorem marks_low (i : Nat) (h : i < 11) : (marksA[i]'h).toNat < 128 := by
  have : ∀ i : Fin 11, (marksA[i.val]'i.isLt).toNat < 128 := by decide +kernel
  exact this ⟨i, h⟩
theorem marks_byte (s : ByteArray) (hs : s.data = marksA) (i : Nat) (h : i < s.size) : (s[i]'h).toNat < 128 := by
  obtain ⟨d⟩ := s
  subst hs
  exact marks_low i h
set_option maxRecDepth 100000 in
theorem indexRune_high (s : ByteArray) (hs : s.data = marksA) (r : Int) (w : World) (h0 : 128 ≤ r) (h1 : r ≤ 1114111) (hg : r < 55296 ∨ 57343 < r) (hb : r ≠ 65533) :
    Calls Try.prog 158 #[.string s, .int .i32 r] w fun e w' => e = .returned (.int .i64 (-1)) ∧ Below w.heap.size w w' := by
  have hz : s.size = 11 := by show s.data.size = 11; rw [hs]; rfl
  obtain ⟨n, hn, hE, hl⟩ := encode_last r h0 h1 hg
  have hV := fun W : World => validRune_yes r W (by omega) h1 hg
  have key : ∀ k : Nat, k ≤ 4 → k ≤ 11 → ∀ x : UInt8, 128 ≤ x.toNat → ∀ W : World, Calls Try.prog 161 #[.string (s.extract k s.size), .int .u8 (x.toNat : Int)] W fun e w' => e = .returned (.int .i64 (-1)) ∧ W = w' := fun k hk hk2 x hx W => by
    have := Any.strings_IndexByte { lContains with } (s.extract k s.size) (x.toNat : Int) W
    have e : (s.extract k s.size).data.toList = marksA.toList.drop k := by
      rw [ByteArray.data_extract, hs, hz, Array.toList_extract]
      simp only [List.extract]
      exact List.take_of_length_le (by rw [List.length_drop]; show 11 - k ≤ 11 - k; omega)
    rw [e, show ((x.toNat : Int)).toNat.toUInt8 = x from by simp, marks_none k hk x hx] at this
    exact this.mono fun _ _ h => ⟨h.1, h.2.symm⟩
  rcases hn with rfl | rfl | rfl
  · have q := hl (by omega)
    replace q : 128 ≤ ((Utf8.encode r)[1]'(by omega)).toNat := q
    have p := marks_byte s hs 1 (by omega)
    exact indexRune_high2 s _ r w h0 h1 hb _ _ rfl (by omega) (by omega) rfl (by omega) (by omega) rfl (beq_eq_false_iff_ne.mpr (by omega)) hV (key 2 (by omega) (by omega) _ q)
  · have q := hl (by omega)
    replace q : 128 ≤ ((Utf8.encode r)[2]'(by omega)).toNat := q
    have p := marks_byte s hs 2 (by omega)
    exact indexRune_high3 s _ r w h0 h1 hb _ _ rfl (by omega) (by omega) rfl (by omega) (by omega) rfl (beq_eq_false_iff_ne.mpr (by omega)) hV (key 3 (by omega) (by omega) _ q)
  · have q := hl (by omega)
    replace q : 128 ≤ ((Utf8.encode r)[3]'(by omega)).toNat := q
    have p := marks_byte s hs 3 (by omega)
    exact indexRune_high4 s _ r w h0 h1 hb _ _ rfl (by omega) (by omega) rfl (by omega) (by omega) rfl (beq_eq_false_iff_ne.mpr (by omega)) hV (key 4 (by omega) (by omega) _ q)
set_option maxHeartbeats 8000000 in
set_option maxRecDepth 1000000 in
theorem indexRune_bad (s : ByteArray) (hs : ∀ i (h : i < s.size), (s[i]'h).toNat < 128) (w : World) :
    Calls Try.prog 158 #[.string s, .int .i32 65533] w fun e w' => e = .returned (.int .i64 (-1)) ∧ Below w.heap.size w w' := by
  have HS := Aside0.mk hs
  clear hs
  go_enter Try.func158, Try.ntmps158
  go_wp2
  go_loopw [176] (fun v3 wr => ∃ (pos : Nat), Aside0 (wr.heap[w.heap.size]? = some (.stringIter s pos)) ∧ Aside0 (Below w.heap.size w wr)) (fun _ wr => s.size - wr.iterPos w.heap.size)
  case atStart => exact ⟨0, ⟨World.iter_heap w s 0⟩, ⟨below_alloc (Below.refl _ _) _⟩⟩
  case round =>
    obtain ⟨pos, HI, HB2⟩ := hrel
    by_cases hp : pos < s.size
    · have ha := HS.out pos hp
      have hnx : ∀ ty, (Instr.next (.pointer (some ⟨w.heap.size, 0, none⟩)) true ty).run Try.prog wr = _ := fun ty => Lib.run_next_ascii_at wr w.heap.size s pos ty HI.out hp ha
      have hne : (((s[pos]'hp).toNat : Int) == 65533) = false := beq_eq_false_iff_ne.mpr (by omega)
      have HB3 := Aside0.mk (Lib.below_iterAt HB2.out (Nat.le_refl _) s (pos + 1))
      have HI3 := Aside0.mk (Lib.iterAt_heap wr w.heap.size s pos (pos + 1) HI.out)
      have HP := Aside0.mk hp
      clear ha
      go_wp2
      go_roundw
      case rel => exact ⟨pos + 1, HI3, HB3⟩
      case measure =>
        have := HP.out
        simp only [World.iterPos, HI3.out, HI.out]
        omega
    · have hnx : ∀ ty, (Instr.next (.pointer (some ⟨w.heap.size, 0, none⟩)) true ty).run Try.prog wr = _ := fun ty => Lib.run_next_end_at wr w.heap.size s pos ty HI.out hp
      have HP := Aside0.mk hp
      clear hp
      go_wp2
      go_ret
      exact ⟨rfl, HB2.out⟩
theorem containsRune_no (s : ByteArray) (r : Int) (w : World) (h : ∀ W : World, Calls Try.prog 158 #[.string s, .int .i32 r] W fun e w' => e = .returned (.int .i64 (-1)) ∧ Below W.heap.size W w') :
    Calls Try.prog 151 #[.string s, .int .i32 r] w fun e w' => e = .returned (.bool false) ∧ Below w.heap.size w w' := by
  go_enter Try.func151, Try.ntmps151
  go_wp2_with (go_at_call 158; refine (h _).mono ?_; rintro e w' ⟨rfl, hb⟩)
  go_ret
  exact ⟨rfl, hb⟩
theorem containsRune (s : ByteArray) (hs : s.data = marksA) (r : Int) (w : World) (h0 : 0 ≤ r) (h1 : r ≤ 1114111) (hg : r < 55296 ∨ 57343 < r) :
    Calls Try.prog 151 #[.string s, .int .i32 r] w fun e w' => e = .returned (.bool (decide (r ∈ marksI))) ∧ Below w.heap.size w w' := by
  by_cases ha : r < 128
  · refine (Any.strings_ContainsRune_ascii lContains s r w h0 ha).mono fun e w' ⟨he, hw⟩ => ?_
    subst he; subst hw
    obtain ⟨m, rfl⟩ := Int.eq_ofNat_of_zero_le h0
    have := marks_ascii ⟨m, by omega⟩
    rw [hs, Int.toNat_natCast]
    rw [this]
    exact ⟨rfl, Below.refl _ _⟩
  · have hn : decide (r ∈ marksI) = false := by
      apply decide_eq_false
      unfold marksI
      simp only [List.mem_cons, List.not_mem_nil, or_false]
      omega
    rw [hn]
    by_cases hb : r = 65533
    · subst hb
      exact containsRune_no s _ w (fun W => indexRune_bad s (fun i h => marks_byte s hs i h) W)
    · exact containsRune_no s _ w (fun W => indexRune_high s hs r W (by omega) h1 hg hb)
theorem impl_isMarkOf.calls (a0 : ByteArray) (a1 : Int) (r : Bool) (w : World) (h : impl_isMarkOf.f a0 a1 = some r) :
    Calls Try.prog 138 #[.string a0, .int .i64 a1] w fun e w' => e = .returned (.bool r) ∧ Below w.heap.size w w' := by
  unfold impl_isMarkOf.f at h
  split at h
  case isFalse => cases h
  rename_i hs
  split at h
  case isFalse => cases h
  rename_i h0
  split at h
  case isFalse => cases h
  rename_i h1
  split at h
  case isTrue => cases h
  rename_i hg
  obtain rfl := Option.some.inj h
  clear h
  have hC := fun W : World => containsRune a0 hs a1 W h0 h1 (by omega)
  generalize decide (a1 ∈ marksI) = b at hC
  have HC := Aside0.mk hC
  clear hC hs hg
  go_enter Try.func138, Try.ntmps138
  go_wp2_with (go_at_call 151; (with_reducible refine (HC.out _).mono ?_); rintro e w' ⟨rfl, hb⟩)
  go_ret
  exact ⟨rfl, hb⟩

/-! ### impl_utf8Of: function 139 -/
def impl_utf8Of.f (a0 : Int) : Option (ByteArray) := some (Utf8.encode (wrap32 a0))
theorem impl_utf8Of.calls (a0 : Int) (r : ByteArray) (w : World) (h : impl_utf8Of.f a0 = some r) :
    Calls Try.prog 139 #[.int .i64 a0] w fun e w' => e = .returned (.string r) ∧ Drawn0 w w' := by
  obtain rfl := Option.some.inj h
  clear h
  go_enter Try.func139, Try.ntmps139
  go_wp2
  go_ret
  exact ⟨by first | rfl | (simp; done) | (simp [*]; done), by repeat (first | exact Drawn0.refl _ | apply Drawn0.step)⟩

end Go.Proofs.Ytlmpeaelpchokaa.HFnExactReText
