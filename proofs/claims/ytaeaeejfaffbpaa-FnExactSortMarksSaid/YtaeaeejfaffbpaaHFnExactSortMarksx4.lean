/- Written by wip/pr.py of this session, for the law FnExactSortMarks: Lean functions with the answers of the program's, and the proofs of that; where the kit's print has no word, by hand. -/
import Derived.Test.YtaeaeejfaffbpaaHFnExactSortMarksx0
import Derived.Test.YtaeaeejfaffbpaaHFnExactSortMarksx3
namespace Go.Proofs.Ytaeaeejfaffbpaa.HFnExactSortMarks
open Go.RowKit Go.Proofs.YtaeaeejfaffbpaaW.PrintWords Go.Proofs.YtaeaeejfaffbpaaW.PrintLast Go.Proofs.YtaeaeejfaffbpaaW.PrintMore
attribute [local go_sem] max2_int min2_int max_two min_two max_three min_three max_four min_four   -- for this text's walks alone
set_option linter.unusedVariables false
set_option linter.unusedSimpArgs false

/-! ### impl_isMark: function 71 -/
def impl_isMark.f (a0 : Int) : Option (Bool) := (impl_inRange.f a0 768 879).bind fun t180 => (some t180)
set_option maxHeartbeats 8000000 in
set_option maxRecDepth 100000 in
theorem impl_isMark.calls (a0 : Int) (r : Bool) (w : World) (h : impl_isMark.f a0 = some r) :
    Calls Try.prog 71 #[.int .i64 a0] w fun e w' => e = .returned (.bool r) ∧ Drawn0 w w' := by
  have H : ((impl_inRange.f a0 768 879).bind fun t180 => (some t180)) = some r := h
  clear h
  replace H := Option.bind_eq_some_iff.mp H
  obtain ⟨t180, A20, H⟩ := H
  replace H : (some t180) = some r := H
  have A2 := Aside0.mk A20
  clear A20
  obtain rfl := Option.some.inj H
  go_enter Try.func71, Try.ntmps71
  go_wp2_with (first | ((with_reducible refine gate_callee (f := 47) rfl ?_); refine goesL_ (some 4) rfl rfl Try.func47 (by kernel_rfl) rfl #[.int .i64 a0, .int .i64 768, .int .i64 879] rfl (by (try simp only [List.map_toArray, List.map_cons, List.map_nil]); first | done | rfl | (simp only [List.length_drop, List.length_take]; rfl)) ?_; (with_reducible refine (impl_inRange.calls a0 768 879 t180 _ A2.out).mono ?_); rintro e w' ⟨rfl, ⟨nd, rfl⟩⟩; refine ⟨_, rfl, ?_⟩))
  go_ret
  exact ⟨by first | rfl | (simp; done) | (simp [*]; done), by repeat (first | exact Drawn0.refl _ | apply Drawn0.step)⟩

/-! ### cmp_isNaN_int: function 86 -/
def cmp_isNaN_int.f (a0 : Int) : Option (Bool) := some (a0 != a0)
set_option maxHeartbeats 8000000 in
set_option maxRecDepth 100000 in
theorem cmp_isNaN_int.calls (a0 : Int) (r : Bool) (w : World) (h : cmp_isNaN_int.f a0 = some r) :
    Calls Try.prog 86 #[.int .i64 a0] w fun e w' => e = .returned (.bool r) ∧ Drawn0 w w' := by
  have H : (some (a0 != a0)) = some r := h
  clear h
  obtain rfl := Option.some.inj H
  go_enter Try.func86, Try.ntmps86
  go_wp2
  go_ret
  exact ⟨by first | rfl | (simp; done) | (simp [*]; done), by repeat (first | exact Drawn0.refl _ | apply Drawn0.step)⟩

/-! ### cmp_Compare_int: function 74 -/
def cmp_Compare_int.f (a0 : Int) (a1 : Int) : Option (Int) := (cmp_isNaN_int.f a0).bind fun t181 => ((cmp_isNaN_int.f a1).bind fun t182 => (if t181 = true then (if t182 = true then (some 0) else (some (-1))) else (if t182 = true then (some 1) else (if a0 < a1 then (some (-1)) else (if a0 > a1 then (some 1) else (some 0))))))
set_option maxHeartbeats 8000000 in
set_option maxRecDepth 100000 in
theorem cmp_Compare_int.calls (a0 : Int) (a1 : Int) (r : Int) (w : World) (h : cmp_Compare_int.f a0 a1 = some r) :
    Calls Try.prog 74 #[.int .i64 a0, .int .i64 a1] w fun e w' => e = .returned (.int .i64 r) ∧ Drawn0 w w' := by
  have H : ((cmp_isNaN_int.f a0).bind fun t181 => ((cmp_isNaN_int.f a1).bind fun t182 => (if t181 = true then (if t182 = true then (some 0) else (some (-1))) else (if t182 = true then (some 1) else (if a0 < a1 then (some (-1)) else (if a0 > a1 then (some 1) else (some 0))))))) = some r := h
  clear h
  replace H := Option.bind_eq_some_iff.mp H
  obtain ⟨t181, A30, H⟩ := H
  replace H : ((cmp_isNaN_int.f a1).bind fun t182 => (if t181 = true then (if t182 = true then (some 0) else (some (-1))) else (if t182 = true then (some 1) else (if a0 < a1 then (some (-1)) else (if a0 > a1 then (some 1) else (some 0)))))) = some r := H
  have A3 := Aside0.mk A30
  clear A30
  replace H := Option.bind_eq_some_iff.mp H
  obtain ⟨t182, A40, H⟩ := H
  replace H : (if t181 = true then (if t182 = true then (some 0) else (some (-1))) else (if t182 = true then (some 1) else (if a0 < a1 then (some (-1)) else (if a0 > a1 then (some 1) else (some 0))))) = some r := H
  have A4 := Aside0.mk A40
  clear A40
  by_cases c5 : t181 = true
  · subst c5
    have H1 : (if t182 = true then (some 0) else (some (-1))) = some r := by rw [if_pos rfl] at H; exact H
    clear H
    have H := H1
    clear H1
    by_cases c6 : t182 = true
    · subst c6
      have H1 : (some 0) = some r := by rw [if_pos rfl] at H; exact H
      clear H
      have H := H1
      clear H1
      obtain rfl := Option.some.inj H
      go_enter Try.func74, Try.ntmps74
      go_wp2_with (first | ((with_reducible refine gate_callee (f := 86) rfl ?_); refine goesL_ (some 8) rfl rfl Try.func86 (by kernel_rfl) rfl #[.int .i64 a0] rfl (by (try simp only [List.map_toArray, List.map_cons, List.map_nil]); first | done | rfl | (simp only [List.length_drop, List.length_take]; rfl)) ?_; (with_reducible refine (cmp_isNaN_int.calls a0 true _ A3.out).mono ?_); rintro e w' ⟨rfl, ⟨nd, rfl⟩⟩; refine ⟨_, rfl, ?_⟩) | ((with_reducible refine gate_callee (f := 86) rfl ?_); refine goesL_ (some 10) rfl rfl Try.func86 (by kernel_rfl) rfl #[.int .i64 a1] rfl (by (try simp only [List.map_toArray, List.map_cons, List.map_nil]); first | done | rfl | (simp only [List.length_drop, List.length_take]; rfl)) ?_; (with_reducible refine (cmp_isNaN_int.calls a1 true _ A4.out).mono ?_); rintro e w' ⟨rfl, ⟨nd, rfl⟩⟩; refine ⟨_, rfl, ?_⟩))
      go_ret
      exact ⟨by first | rfl | (simp; done) | (simp [*]; done), by repeat (first | exact Drawn0.refl _ | apply Drawn0.step)⟩
    · replace c6 := Bool.eq_false_iff.mpr c6
      subst c6
      have H1 : (some (-1)) = some r := by rw [if_neg (show ¬ (false = true) by decide)] at H; exact H
      clear H
      have H := H1
      clear H1
      obtain rfl := Option.some.inj H
      go_enter Try.func74, Try.ntmps74
      go_wp2_with (first | ((with_reducible refine gate_callee (f := 86) rfl ?_); refine goesL_ (some 8) rfl rfl Try.func86 (by kernel_rfl) rfl #[.int .i64 a0] rfl (by (try simp only [List.map_toArray, List.map_cons, List.map_nil]); first | done | rfl | (simp only [List.length_drop, List.length_take]; rfl)) ?_; (with_reducible refine (cmp_isNaN_int.calls a0 true _ A3.out).mono ?_); rintro e w' ⟨rfl, ⟨nd, rfl⟩⟩; refine ⟨_, rfl, ?_⟩) | ((with_reducible refine gate_callee (f := 86) rfl ?_); refine goesL_ (some 10) rfl rfl Try.func86 (by kernel_rfl) rfl #[.int .i64 a1] rfl (by (try simp only [List.map_toArray, List.map_cons, List.map_nil]); first | done | rfl | (simp only [List.length_drop, List.length_take]; rfl)) ?_; (with_reducible refine (cmp_isNaN_int.calls a1 false _ A4.out).mono ?_); rintro e w' ⟨rfl, ⟨nd, rfl⟩⟩; refine ⟨_, rfl, ?_⟩))
      go_ret
      exact ⟨by first | rfl | (simp; done) | (simp [*]; done), by repeat (first | exact Drawn0.refl _ | apply Drawn0.step)⟩
  · replace c5 := Bool.eq_false_iff.mpr c5
    subst c5
    have H1 : (if t182 = true then (some 1) else (if a0 < a1 then (some (-1)) else (if a0 > a1 then (some 1) else (some 0)))) = some r := by rw [if_neg (show ¬ (false = true) by decide)] at H; exact H
    clear H
    have H := H1
    clear H1
    by_cases c7 : t182 = true
    · subst c7
      have H1 : (some 1) = some r := by rw [if_pos rfl] at H; exact H
      clear H
      have H := H1
      clear H1
      obtain rfl := Option.some.inj H
      go_enter Try.func74, Try.ntmps74
      go_wp2_with (first | ((with_reducible refine gate_callee (f := 86) rfl ?_); refine goesL_ (some 8) rfl rfl Try.func86 (by kernel_rfl) rfl #[.int .i64 a0] rfl (by (try simp only [List.map_toArray, List.map_cons, List.map_nil]); first | done | rfl | (simp only [List.length_drop, List.length_take]; rfl)) ?_; (with_reducible refine (cmp_isNaN_int.calls a0 false _ A3.out).mono ?_); rintro e w' ⟨rfl, ⟨nd, rfl⟩⟩; refine ⟨_, rfl, ?_⟩) | ((with_reducible refine gate_callee (f := 86) rfl ?_); refine goesL_ (some 10) rfl rfl Try.func86 (by kernel_rfl) rfl #[.int .i64 a1] rfl (by (try simp only [List.map_toArray, List.map_cons, List.map_nil]); first | done | rfl | (simp only [List.length_drop, List.length_take]; rfl)) ?_; (with_reducible refine (cmp_isNaN_int.calls a1 true _ A4.out).mono ?_); rintro e w' ⟨rfl, ⟨nd, rfl⟩⟩; refine ⟨_, rfl, ?_⟩))
      go_ret
      exact ⟨by first | rfl | (simp; done) | (simp [*]; done), by repeat (first | exact Drawn0.refl _ | apply Drawn0.step)⟩
    · replace c7 := Bool.eq_false_iff.mpr c7
      subst c7
      have H1 : (if a0 < a1 then (some (-1)) else (if a0 > a1 then (some 1) else (some 0))) = some r := by rw [if_neg (show ¬ (false = true) by decide)] at H; exact H
      clear H
      have H := H1
      clear H1
      by_cases c8 : a0 < a1
      · rw [if_pos c8] at H
        have c8b0 : decide (a0 < a1) = true := decide_eq_true c8
        clear c8
        obtain rfl := Option.some.inj H
        go_enter Try.func74, Try.ntmps74
        go_wp2_with (first | ((with_reducible refine gate_callee (f := 86) rfl ?_); refine goesL_ (some 8) rfl rfl Try.func86 (by kernel_rfl) rfl #[.int .i64 a0] rfl (by (try simp only [List.map_toArray, List.map_cons, List.map_nil]); first | done | rfl | (simp only [List.length_drop, List.length_take]; rfl)) ?_; (with_reducible refine (cmp_isNaN_int.calls a0 false _ A3.out).mono ?_); rintro e w' ⟨rfl, ⟨nd, rfl⟩⟩; refine ⟨_, rfl, ?_⟩) | ((with_reducible refine gate_callee (f := 86) rfl ?_); refine goesL_ (some 10) rfl rfl Try.func86 (by kernel_rfl) rfl #[.int .i64 a1] rfl (by (try simp only [List.map_toArray, List.map_cons, List.map_nil]); first | done | rfl | (simp only [List.length_drop, List.length_take]; rfl)) ?_; (with_reducible refine (cmp_isNaN_int.calls a1 false _ A4.out).mono ?_); rintro e w' ⟨rfl, ⟨nd, rfl⟩⟩; refine ⟨_, rfl, ?_⟩))
        go_ret
        exact ⟨by first | rfl | (simp; done) | (simp [*]; done), by repeat (first | exact Drawn0.refl _ | apply Drawn0.step)⟩
      · rw [if_neg c8] at H
        have c8b0 : decide (a0 < a1) = false := decide_eq_false c8
        clear c8
        by_cases c9 : a0 > a1
        · rw [if_pos c9] at H
          have c9b0 : decide (a1 < a0) = true := decide_eq_true c9
          clear c9
          obtain rfl := Option.some.inj H
          go_enter Try.func74, Try.ntmps74
          go_wp2_with (first | ((with_reducible refine gate_callee (f := 86) rfl ?_); refine goesL_ (some 8) rfl rfl Try.func86 (by kernel_rfl) rfl #[.int .i64 a0] rfl (by (try simp only [List.map_toArray, List.map_cons, List.map_nil]); first | done | rfl | (simp only [List.length_drop, List.length_take]; rfl)) ?_; (with_reducible refine (cmp_isNaN_int.calls a0 false _ A3.out).mono ?_); rintro e w' ⟨rfl, ⟨nd, rfl⟩⟩; refine ⟨_, rfl, ?_⟩) | ((with_reducible refine gate_callee (f := 86) rfl ?_); refine goesL_ (some 10) rfl rfl Try.func86 (by kernel_rfl) rfl #[.int .i64 a1] rfl (by (try simp only [List.map_toArray, List.map_cons, List.map_nil]); first | done | rfl | (simp only [List.length_drop, List.length_take]; rfl)) ?_; (with_reducible refine (cmp_isNaN_int.calls a1 false _ A4.out).mono ?_); rintro e w' ⟨rfl, ⟨nd, rfl⟩⟩; refine ⟨_, rfl, ?_⟩))
          go_ret
          exact ⟨by first | rfl | (simp; done) | (simp [*]; done), by repeat (first | exact Drawn0.refl _ | apply Drawn0.step)⟩
        · rw [if_neg c9] at H
          have c9b0 : decide (a1 < a0) = false := decide_eq_false c9
          clear c9
          obtain rfl := Option.some.inj H
          go_enter Try.func74, Try.ntmps74
          go_wp2_with (first | ((with_reducible refine gate_callee (f := 86) rfl ?_); refine goesL_ (some 8) rfl rfl Try.func86 (by kernel_rfl) rfl #[.int .i64 a0] rfl (by (try simp only [List.map_toArray, List.map_cons, List.map_nil]); first | done | rfl | (simp only [List.length_drop, List.length_take]; rfl)) ?_; (with_reducible refine (cmp_isNaN_int.calls a0 false _ A3.out).mono ?_); rintro e w' ⟨rfl, ⟨nd, rfl⟩⟩; refine ⟨_, rfl, ?_⟩) | ((with_reducible refine gate_callee (f := 86) rfl ?_); refine goesL_ (some 10) rfl rfl Try.func86 (by kernel_rfl) rfl #[.int .i64 a1] rfl (by (try simp only [List.map_toArray, List.map_cons, List.map_nil]); first | done | rfl | (simp only [List.length_drop, List.length_take]; rfl)) ?_; (with_reducible refine (cmp_isNaN_int.calls a1 false _ A4.out).mono ?_); rintro e w' ⟨rfl, ⟨nd, rfl⟩⟩; refine ⟨_, rfl, ?_⟩))
          go_ret
          exact ⟨by first | rfl | (simp; done) | (simp [*]; done), by repeat (first | exact Drawn0.refl _ | apply Drawn0.step)⟩

/-! ### impl_orderOf: function 75 -/
def impl_orderOf.f (a0 : Int) : Option (Int) := (impl_isMark.f a0).bind fun t183 => (if t183 = true then (some (wrap64 (1 + (Int.tmod a0 5)))) else (some 0))
set_option maxHeartbeats 8000000 in
set_option maxRecDepth 100000 in
theorem impl_orderOf.calls (a0 : Int) (r : Int) (w : World) (h : impl_orderOf.f a0 = some r) :
    Calls Try.prog 75 #[.int .i64 a0] w fun e w' => e = .returned (.int .i64 r) ∧ Drawn0 w w' := by
  have H : ((impl_isMark.f a0).bind fun t183 => (if t183 = true then (some (wrap64 (1 + (Int.tmod a0 5)))) else (some 0))) = some r := h
  clear h
  replace H := Option.bind_eq_some_iff.mp H
  obtain ⟨t183, A20, H⟩ := H
  replace H : (if t183 = true then (some (wrap64 (1 + (Int.tmod a0 5)))) else (some 0)) = some r := H
  have A2 := Aside0.mk A20
  clear A20
  by_cases c3 : t183 = true
  · subst c3
    have H1 : (some (wrap64 (1 + (Int.tmod a0 5)))) = some r := by rw [if_pos rfl] at H; exact H
    clear H
    have H := H1
    clear H1
    obtain rfl := Option.some.inj H
    go_enter Try.func75, Try.ntmps75
    go_wp2_with (first | ((with_reducible refine gate_callee (f := 71) rfl ?_); refine goesL_ (some 4) rfl rfl Try.func71 (by kernel_rfl) rfl #[.int .i64 a0] rfl (by (try simp only [List.map_toArray, List.map_cons, List.map_nil]); first | done | rfl | (simp only [List.length_drop, List.length_take]; rfl)) ?_; (with_reducible refine (impl_isMark.calls a0 true _ A2.out).mono ?_); rintro e w' ⟨rfl, ⟨nd, rfl⟩⟩; refine ⟨_, rfl, ?_⟩))
    go_ret
    exact ⟨by first | rfl | (simp; done) | (simp [*]; done), by repeat (first | exact Drawn0.refl _ | apply Drawn0.step)⟩
  · replace c3 := Bool.eq_false_iff.mpr c3
    subst c3
    have H1 : (some 0) = some r := by rw [if_neg (show ¬ (false = true) by decide)] at H; exact H
    clear H
    have H := H1
    clear H1
    obtain rfl := Option.some.inj H
    go_enter Try.func75, Try.ntmps75
    go_wp2_with (first | ((with_reducible refine gate_callee (f := 71) rfl ?_); refine goesL_ (some 4) rfl rfl Try.func71 (by kernel_rfl) rfl #[.int .i64 a0] rfl (by (try simp only [List.map_toArray, List.map_cons, List.map_nil]); first | done | rfl | (simp only [List.length_drop, List.length_take]; rfl)) ?_; (with_reducible refine (impl_isMark.calls a0 false _ A2.out).mono ?_); rintro e w' ⟨rfl, ⟨nd, rfl⟩⟩; refine ⟨_, rfl, ?_⟩))
    go_ret
    exact ⟨by first | rfl | (simp; done) | (simp [*]; done), by repeat (first | exact Drawn0.refl _ | apply Drawn0.step)⟩

/-! ### impl_sortMarks: function 37 -/
def lIns_ren : Go.Shelf.Ren := ⟨fun | 20 => 89 | n => n, fun | 24 => 3 | 22 => 22 | 3 => 3 | 25 => 70 | 4 => 4 | 0 => 0 | n => n, fun | n => n⟩
theorem lIns : Go.Proofs.SlLaysF.n20 Try.prog lIns_ren := {
  mixed := by kernel_rfl
  f20 := ⟨Try.f89.name, by decide, Try.func89.trans (congrArg some (by kernel_rfl))⟩
  t0 := Try.underlying0
  a0 := Try.isAgg0
  z0 := Try.sizeOf0
  v0 := Try.zeroValue0
  t3 := Try.underlying3
  a3 := Try.isAgg3
  z3 := Try.sizeOf3
  v3 := Try.zeroValue3
  t4 := Try.underlying4
  a4 := Try.isAgg4
  z4 := Try.sizeOf4
  v4 := Try.zeroValue4
  t22 := Try.underlying22
  a22 := Try.isAgg22
  z22 := Try.sizeOf22
  v22 := Try.zeroValue22
  a24 := Try.isAgg3
  z24 := Try.sizeOf3
  t25 := Try.underlying70
  a25 := Try.isAgg70
  z25 := Try.sizeOf70
  v25 := Try.zeroValue70 }

/-! stable sorting: the plain side -/
/-- An element with its first place. -/
structure TI where
  x : Int
  t : Nat
instance : Inhabited TI := ⟨⟨0, 0⟩⟩
def ordV (r : Int) : Int := if 768 ≤ r ∧ r ≤ 879 then 1 + r % 5 else 0
def cfT (a b : TI) : Int := if ordV a.x < ordV b.x then -1 else if ordV b.x < ordV a.x then 1 else 0
def tlt (a b : TI) : Bool := decide (ordV a.x < ordV b.x ∨ (ordV a.x = ordV b.x ∧ a.t < b.t))
def tle (a b : TI) : Prop := ordV a.x < ordV b.x ∨ (ordV a.x = ordV b.x ∧ a.t ≤ b.t)
theorem ltT (a b : TI) : ltOf cfT a b = decide (ordV a.x < ordV b.x) := by
  unfold ltOf cfT
  rw [Bool.eq_iff_iff, decide_eq_true_iff, decide_eq_true_iff]
  split
  · omega
  · split <;> omega
theorem tlt_false {a b : TI} : tlt a b = false ↔ tle b a := by
  unfold tlt tle
  rw [decide_eq_false_iff_not]
  omega
theorem tlt_swo : Sort.SWO tlt where
  irrefl x := by unfold tlt; rw [decide_eq_false_iff_not]; omega
  trans x y z h1 h2 := by unfold tlt at *; rw [decide_eq_true_iff] at *; omega
  ntrans x y z h1 h2 := by unfold tlt at *; rw [decide_eq_false_iff_not] at *; omega
theorem tle_trans {a b c : TI} (h1 : tle a b) (h2 : tle b c) : tle a c := by unfold tle at *; omega
def SortedT (a b : Nat) (d : Array TI) : Prop := ∀ i j, a ≤ i → i < j → j < b → tle d[i]! d[j]!
/-- Two blocks exchanged. -/
def Swapped (a b n : Nat) (d d' : Array TI) : Prop := d'.size = d.size ∧ (∀ t, t < n → d'[a + t]! = d[b + t]! ∧ d'[b + t]! = d[a + t]!) ∧ ∀ k, (k < a ∨ a + n ≤ k) → (k < b ∨ b + n ≤ k) → d'[k]! = d[k]!
theorem Swapped.zero (a b : Nat) (d : Array TI) : Swapped a b 0 d d := ⟨rfl, fun t h => by omega, fun _ _ _ => rfl⟩
theorem Swapped.step {a b n : Nat} {d d1 : Array TI} (h : Swapped a b n d d1) (hab : a + n < b) (hb : b + n < d.size) : Swapped a b (n + 1) d (Sort.swp d1 (a + n) (b + n)) := by
  obtain ⟨h1, h2, h3⟩ := h
  refine ⟨by rw [Sort.size_swp, h1], fun t ht => ?_, fun k k1 k2 => ?_⟩
  · by_cases e : t = n
    · subst e
      refine ⟨?_, ?_⟩
      · rw [Sort.swp_left _ _ _ (by omega) (by omega), h3 _ (by omega) (by omega)]
      · rw [Sort.swp_right _ _ _ (by omega), h3 _ (by omega) (by omega)]
    · have := h2 t (by omega)
      refine ⟨?_, ?_⟩
      · rw [Sort.swp_other _ _ _ _ (by omega) (by omega), this.1]
      · rw [Sort.swp_other _ _ _ _ (by omega) (by omega), this.2]
  · rw [Sort.swp_other _ _ _ _ (by omega) (by omega), h3 k (by omega) (by omega)]
/-- Two neighbouring blocks rotated. -/
def Rotated (s m e : Nat) (d d' : Array TI) : Prop := d'.size = d.size ∧ (∀ t, t < e - m → d'[s + t]! = d[m + t]!) ∧ (∀ t, t < m - s → d'[s + (e - m) + t]! = d[s + t]!) ∧ ∀ k, k < s ∨ e ≤ k → d'[k]! = d[k]!
theorem Rotated.none {s m e : Nat} (d : Array TI) (h : s = m ∨ m = e) : Rotated s m e d d := by
  refine ⟨rfl, fun t ht => ?_, fun t ht => ?_, fun _ _ => rfl⟩
  · rcases h with rfl | rfl
    · rfl
    · omega
  · rcases h with rfl | rfl
    · omega
    · rw [show s + (m - m) + t = s + t from by omega]
theorem Rotated.eq {s m e : Nat} {d d' : Array TI} (h : Swapped s m (m - s) d d') (h1 : s ≤ m) (h2 : e = m + (m - s)) : Rotated s m e d d' := by
  obtain ⟨g1, g2, g3⟩ := h
  refine ⟨g1, fun t ht => (g2 t (by omega)).1, fun t ht => ?_, fun k hk => g3 k (by omega) (by omega)⟩
  rw [show s + (e - m) + t = m + t from by omega]
  exact (g2 t ht).2
theorem Rotated.gt {s m e : Nat} {d d1 d' : Array TI} (h : Swapped s m (e - m) d d1) (h1 : m ≤ e) (h2 : s + (e - m) < m) (r : Rotated (s + (e - m)) m e d1 d') : Rotated s m e d d' := by
  obtain ⟨g1, g2, g3⟩ := h
  obtain ⟨r1, r2, r3, r4⟩ := r
  refine ⟨r1.trans g1, fun t ht => ?_, fun t ht => ?_, fun k hk => ?_⟩
  · rw [r4 _ (by omega)]
    exact (g2 t ht).1
  · by_cases c : t < e - m
    · rw [r2 t c]
      exact (g2 t c).2
    · have := r3 (t - (e - m)) (by omega)
      rw [show s + (e - m) + (e - m) + (t - (e - m)) = s + (e - m) + t from by omega, show s + (e - m) + (t - (e - m)) = s + t from by omega] at this
      rw [this]
      exact g3 _ (by omega) (by omega)
  · rw [r4 k (by omega)]
    exact g3 k (by omega) (by omega)
theorem Rotated.lt {s m e : Nat} {d d1 d' : Array TI} (h : Swapped s (e - (m - s)) (m - s) d d1) (h1 : s ≤ m) (h2 : m < e - (m - s)) (r : Rotated s m (e - (m - s)) d1 d') : Rotated s m e d d' := by
  obtain ⟨g1, g2, g3⟩ := h
  obtain ⟨r1, r2, r3, r4⟩ := r
  refine ⟨r1.trans g1, fun t ht => ?_, fun t ht => ?_, fun k hk => ?_⟩
  · by_cases c : t < e - (m - s) - m
    · rw [r2 t c]
      exact g3 _ (by omega) (by omega)
    · have := r3 (t - (e - (m - s) - m)) (by omega)
      rw [show s + (e - (m - s) - m) + (t - (e - (m - s) - m)) = s + t from by omega] at this
      rw [this]
      have g := (g2 (t - (e - (m - s) - m)) (by omega)).1
      rw [show e - (m - s) + (t - (e - (m - s) - m)) = m + t from by omega] at g
      exact g
  · rw [r4 _ (by omega)]
    have g := (g2 t ht).2
    rw [show e - (m - s) + t = s + (e - m) + t from by omega] at g
    exact g
  · rw [r4 k (by omega)]
    exact g3 k (by omega) (by omega)
theorem Rotated.up {a p : Nat} {d d1 : Array TI} (h : Rotated a (a + 1) (p + 1) d d1) (h1 : a ≤ p) (h2 : p + 1 < d.size) : Rotated a (a + 1) (p + 2) d (Sort.swp d1 p (p + 1)) := by
  obtain ⟨g1, g2, g3, g4⟩ := h
  refine ⟨by rw [Sort.size_swp, g1], fun t ht => ?_, fun t ht => ?_, fun k hk => ?_⟩
  · by_cases c : t < p + 1 - (a + 1)
    · rw [Sort.swp_other _ _ _ _ (by omega) (by omega)]
      exact g2 t c
    · rw [show a + t = p from by omega, Sort.swp_left _ _ _ (by omega) (by omega), g4 _ (by omega)]
      congr 1
      omega
  · have := g3 t (by omega)
    rw [show a + (p + 1 - (a + 1)) + t = p from by omega] at this
    rw [show a + (p + 2 - (a + 1)) + t = p + 1 from by omega, Sort.swp_right _ _ _ (by omega)]
    exact this
  · rw [Sort.swp_other _ _ _ _ (by omega) (by omega)]
    exact g4 k (by omega)
theorem Rotated.down {k m : Nat} {d d1 : Array TI} (h : Rotated (k + 1) m (m + 1) d d1) (h1 : k < m) (h2 : m < d.size) : Rotated k m (m + 1) d (Sort.swp d1 (k + 1) k) := by
  obtain ⟨g1, g2, g3, g4⟩ := h
  refine ⟨by rw [Sort.size_swp, g1], fun t ht => ?_, fun t ht => ?_, fun j hj => ?_⟩
  · have := g2 t (by omega)
    rw [show k + 1 + t = k + 1 from by omega] at this
    rw [show k + t = k from by omega, Sort.swp_right _ _ _ (by omega)]
    exact this
  · by_cases c : t = 0
    · subst c
      rw [show k + (m + 1 - m) + 0 = k + 1 from by omega, Sort.swp_left _ _ _ (by omega) (by omega)]
      exact g4 _ (by omega)
    · have := g3 (t - 1) (by omega)
      rw [show k + 1 + (m + 1 - m) + (t - 1) = k + (m + 1 - m) + t from by omega, show k + 1 + (t - 1) = k + t from by omega] at this
      rw [Sort.swp_other _ _ _ _ (by omega) (by omega)]
      exact this
  · rw [Sort.swp_other _ _ _ _ (by omega) (by omega)]
    exact g4 j (by omega)
/-- Where a rotated row's elements come from. -/
theorem Rotated.at {s m e : Nat} {d d' : Array TI} (h : Rotated s m e d d') (h1 : s ≤ m) (h2 : m ≤ e) (k : Nat) :
    (k < s → d'[k]! = d[k]!) ∧ (s ≤ k → k < s + (e - m) → d'[k]! = d[m + (k - s)]!) ∧ (s + (e - m) ≤ k → k < e → d'[k]! = d[s + (k - (s + (e - m)))]!) ∧ (e ≤ k → d'[k]! = d[k]!) := by
  obtain ⟨g1, g2, g3, g4⟩ := h
  refine ⟨fun a => g4 k (.inl a), fun a b => ?_, fun a b => ?_, fun a => g4 k (.inr a)⟩
  · have := g2 (k - s) (by omega)
    rwa [show s + (k - s) = k from by omega] at this
  · have := g3 (k - (s + (e - m))) (by omega)
    rwa [show s + (e - m) + (k - (s + (e - m))) = k from by omega] at this
theorem base1 {a m i b : Nat} {d d' : Array TI} (hs : SortedT m b d) (hm : m = a + 1) (hi : m ≤ i) (hib : i ≤ b) (h1 : ∀ x, m ≤ x → x < i → ordV d[x]!.x < ordV d[a]!.x) (h2 : ∀ x, i ≤ x → x < b → ¬ ordV d[x]!.x < ordV d[a]!.x) (ht : ∀ x, m ≤ x → x < b → d[a]!.t ≤ d[x]!.t) (hr : Rotated a m i d d') : SortedT a b d' := by
  intro p q hp hpq hq
  have P := hr.at (by omega) hi p
  have Q := hr.at (by omega) hi q
  by_cases c1 : p < a + (i - m)
  · rw [P.2.1 hp c1]
    by_cases c2 : q < a + (i - m)
    · rw [Q.2.1 (by omega) c2]
      exact hs _ _ (by omega) (by omega) (by omega)
    · by_cases c3 : q < i
      · rw [Q.2.2.1 (by omega) c3]
        have := h1 (m + (p - a)) (by omega) (by omega)
        rw [show a + (q - (a + (i - m))) = a from by omega]
        exact .inl this
      · rw [Q.2.2.2 (by omega)]
        exact hs _ _ (by omega) (by omega) (by omega)
  · by_cases c3 : p < i
    · rw [P.2.2.1 (by omega) c3, Q.2.2.2 (by omega), show a + (p - (a + (i - m))) = a from by omega]
      have := h2 q (by omega) hq
      have := ht q (by omega) hq
      unfold tle
      omega
    · rw [P.2.2.2 (by omega), Q.2.2.2 (by omega)]
      exact hs _ _ (by omega) hpq hq
theorem base2 {a m i : Nat} {d d' : Array TI} (hs : SortedT a m d) (hi : a ≤ i) (him : i ≤ m) (h1 : ∀ x, a ≤ x → x < i → ¬ ordV d[m]!.x < ordV d[x]!.x) (h2 : ∀ x, i ≤ x → x < m → ordV d[m]!.x < ordV d[x]!.x) (ht : ∀ x, a ≤ x → x < m → d[x]!.t ≤ d[m]!.t) (hr : Rotated i m (m + 1) d d') : SortedT a (m + 1) d' := by
  intro p q hp hpq hq
  have P := hr.at him (by omega) p
  have Q := hr.at him (by omega) q
  by_cases c1 : p < i
  · rw [P.1 c1]
    by_cases c2 : q < i
    · rw [Q.1 c2]
      exact hs _ _ hp hpq (by omega)
    · by_cases c3 : q < i + (m + 1 - m)
      · rw [Q.2.1 (by omega) c3, show m + (q - i) = m from by omega]
        have := h1 p hp c1
        have := ht p hp (by omega)
        unfold tle
        omega
      · rw [Q.2.2.1 (by omega) (by omega)]
        exact hs _ _ hp (by omega) (by omega)
  · by_cases c3 : p < i + (m + 1 - m)
    · rw [P.2.1 (by omega) c3, Q.2.2.1 (by omega) (by omega), show m + (p - i) = m from by omega]
      exact .inl (h2 _ (by omega) (by omega))
    · rw [P.2.2.1 (by omega) (by omega), Q.2.2.1 (by omega) (by omega)]
      exact hs _ _ (by omega) (by omega) (by omega)
/-- What is asked of a row that is to be merged. -/
structure Mer (a m b : Nat) (d : Array TI) : Prop where
  s1 : SortedT a m d
  s2 : SortedT m b d
  tg : ∀ x y, a ≤ x → x < m → m ≤ y → y < b → d[x]!.t ≤ d[y]!.t
theorem sorted_le {a b : Nat} {d : Array TI} (h : SortedT a b d) {x y : Nat} (hx : a ≤ x) (hxy : x ≤ y) (hy : y < b) : ordV d[x]!.x ≤ ordV d[y]!.x := by
  by_cases e : x = y
  · subst e; omega
  · have := h x y hx (by omega) hy
    unfold tle at this
    omega
theorem mer_step {a s m e b : Nat} {d d1 : Array TI} (h : Mer a m b d) (h1 : a ≤ s) (h2 : s ≤ m) (h3 : m ≤ e) (h4 : e ≤ b) (c1 : s < m → m < e → ordV d[e - 1]!.x < ordV d[s]!.x) (c2 : a < s → e < b → ordV d[s - 1]!.x ≤ ordV d[e]!.x) (hr : Rotated s m e d d1) :
    Mer a s (s + (e - m)) d1 ∧ Mer (s + (e - m)) e b d1 ∧ ∀ x y, a ≤ x → x < s + (e - m) → s + (e - m) ≤ y → y < b → tle d1[x]! d1[y]! := by
  have R := hr.at h2 h3
  refine ⟨⟨fun p q hp hpq hq => ?_, fun p q hp hpq hq => ?_, fun x y hx hx2 hy hy2 => ?_⟩, ⟨fun p q hp hpq hq => ?_, fun p q hp hpq hq => ?_, fun x y hx hx2 hy hy2 => ?_⟩, fun x y hx hx2 hy hy2 => ?_⟩
  · rw [(R p).1 (by omega), (R q).1 hq]
    exact h.s1 _ _ hp hpq (by omega)
  · rw [(R p).2.1 hp (by omega), (R q).2.1 (by omega) hq]
    exact h.s2 _ _ (by omega) (by omega) (by omega)
  · rw [(R x).1 hx2, (R y).2.1 hy hy2]
    exact h.tg _ _ hx (by omega) (by omega) (by omega)
  · rw [(R p).2.2.1 hp (by omega), (R q).2.2.1 (by omega) hq]
    exact h.s1 _ _ (by omega) (by omega) (by omega)
  · rw [(R p).2.2.2 hp, (R q).2.2.2 (by omega)]
    exact h.s2 _ _ (by omega) hpq hq
  · rw [(R x).2.2.1 hx hx2, (R y).2.2.2 hy]
    exact h.tg _ _ (by omega) (by omega) (by omega) hy2
  · by_cases cx : x < s
    · rw [(R x).1 cx]
      by_cases cy : y < e
      · rw [(R y).2.2.1 hy cy]
        exact h.s1 _ _ hx (by omega) (by omega)
      · rw [(R y).2.2.2 (by omega)]
        have k1 := c2 (by omega) (by omega)
        have k2 := sorted_le h.s1 hx (show x ≤ s - 1 by omega) (by omega)
        have k3 := sorted_le h.s2 (show m ≤ e by omega) (show e ≤ y by omega) hy2
        have k4 := h.tg x y hx (by omega) (by omega) hy2
        unfold tle
        omega
    · rw [(R x).2.1 (by omega) hx2]
      by_cases cy : y < e
      · rw [(R y).2.2.1 hy cy]
        have k1 := c1 (by omega) (by omega)
        have k2 := sorted_le h.s2 (show m ≤ m + (x - s) by omega) (show m + (x - s) ≤ e - 1 by omega) (by omega)
        have k3 := sorted_le h.s1 (show a ≤ s by omega) (show s ≤ s + (y - (s + (e - m))) by omega) (by omega)
        unfold tle
        omega
      · rw [(R y).2.2.2 (by omega)]
        exact h.s2 _ _ (by omega) (by omega) hy2
theorem mer_end {a mid b : Nat} {d1 d2 d3 : Array TI} (ham : a ≤ mid) (hmb : mid ≤ b) (hb : b ≤ d1.size) (p1 : Sort.PermIn a mid d1 d2) (s1 : SortedT a mid d2) (p2 : Sort.PermIn mid b d2 d3) (s2 : SortedT mid b d3)
    (hx : ∀ x y, a ≤ x → x < mid → mid ≤ y → y < b → tle d1[x]! d1[y]!) : Sort.PermIn a b d1 d3 ∧ SortedT a b d3 := by
  have z2 : d2.size = d1.size := p1.1
  refine ⟨Sort.permIn_trans _ _ _ _ _ (Sort.permIn_mono _ _ _ _ _ _ (Nat.le_refl _) hmb hb p1) (Sort.permIn_mono _ _ _ _ _ _ ham (Nat.le_refl _) (by omega) p2), fun i j hi hij hj => ?_⟩
  by_cases c1 : j < mid
  · rw [p2.2.1 i (by omega), p2.2.1 j (by omega)]
    exact s1 i j hi hij c1
  · by_cases c2 : mid ≤ i
    · exact s2 i j c2 hij hj
    · rw [p2.2.1 i (by omega)]
      have k1 : ∀ y, mid ≤ y → y < b → tle d2[i]! d1[y]! := fun y y1 y2 =>
        Sort.permIn_all d1 d2 a mid (fun z => tle z d1[y]!) (by omega) p1 (fun x x1 x2 => hx x y x1 x2 y1 y2) i hi (by omega)
      exact Sort.permIn_all d2 d3 mid b (fun z => tle d2[i]! z) (by omega) p2 (fun y y1 y2 => by rw [p1.2.1 y (by omega)]; exact k1 y y1 y2) j (by omega) hj
/-! insertion sort -/
theorem ins_perm (lt : TI → TI → Bool) (a : Nat) : ∀ (j : Nat) (d : Array TI), a ≤ j → j < d.size → Sort.PermIn a (j + 1) d (Sort.insInner lt a j d)
  | 0, d, _, _ => by unfold Sort.insInner; exact Sort.permIn_refl _ _ _
  | j + 1, d, ha, hj => by
    unfold Sort.insInner
    split
    · rename_i c
      have hja : a < j + 1 := by
        rw [Bool.and_eq_true, decide_eq_true_iff] at c
        omega
      have p1 := Sort.swp_permIn d a (j + 2) (j + 1) j (by omega) (by omega) (by omega) (by omega) (by omega)
      have p2 := ins_perm lt a j (Sort.swp d (j + 1) j) (by omega) (by rw [Sort.size_swp]; omega)
      exact Sort.permIn_trans _ _ _ _ _ p1 (Sort.permIn_mono _ _ _ _ _ _ (Nat.le_refl _) (by omega) (by rw [Sort.size_swp]; omega) p2)
    · exact Sort.permIn_refl _ _ _
theorem ins_inner_eq (a : Nat) : ∀ (j : Nat) (d : Array TI), j < d.size → (∀ k, a ≤ k → k < j → d[k]!.t ≤ d[j]!.t) → Sort.insInner (ltOf cfT) a j d = Sort.insInner tlt a j d
  | 0, d, _, _ => by unfold Sort.insInner; rfl
  | j + 1, d, hj, ht => by
    unfold Sort.insInner
    by_cases c : j + 1 > a
    · have e : ltOf cfT d[j + 1]! d[j]! = tlt d[j + 1]! d[j]! := by
        rw [ltT]
        unfold tlt
        rw [decide_eq_decide]
        have := ht j (by omega) (by omega)
        omega
      rw [e]
      split
      · refine ins_inner_eq a j _ (by rw [Sort.size_swp]; omega) fun k hk1 hk2 => ?_
        rw [Sort.swp_right _ _ _ (by omega), Sort.swp_other _ _ _ _ (by omega) (by omega)]
        exact ht k hk1 (by omega)
      · rfl
    · rw [decide_eq_false c, Bool.false_and, Bool.false_and, if_neg (by simp), if_neg (by simp)]
theorem ins_outer_stop (lt : TI → TI → Bool) (a b i : Nat) (d : Array TI) (h : ¬ i < b) : Sort.insOuter lt a b i d = d := by rw [Sort.insOuter, if_neg h]
theorem ins_outer_go (lt : TI → TI → Bool) (a b i : Nat) (d : Array TI) (h : i < b) : Sort.insOuter lt a b i d = Sort.insOuter lt a b (i + 1) (Sort.insInner lt a i d) := by rw [Sort.insOuter, if_pos h]
theorem ins_outer_eq (a b : Nat) : ∀ (n i : Nat) (d : Array TI), b - i = n → a < i → b ≤ d.size → (∀ k l, a ≤ k → k < l → i ≤ l → l < b → d[k]!.t ≤ d[l]!.t) → Sort.insOuter (ltOf cfT) a b i d = Sort.insOuter tlt a b i d
  | 0, i, d, hn, _, _, _ => by rw [ins_outer_stop (ltOf cfT) a b i d (by omega), ins_outer_stop tlt a b i d (by omega)]
  | n + 1, i, d, hn, hi, hb, ht => by
    rw [ins_outer_go (ltOf cfT) a b i d (by omega), ins_outer_go tlt a b i d (by omega), ins_inner_eq a i d (by omega) (fun k k1 k2 => ht k i k1 k2 (Nat.le_refl _) (by omega))]
    have hp := ins_perm tlt a i d (by omega) (by omega)
    refine ins_outer_eq a b n (i + 1) _ (by omega) (by omega) (by rw [hp.1]; exact hb) fun k l k1 k2 k3 k4 => ?_
    rw [hp.2.1 l (by omega)]
    by_cases c : k < i + 1
    · exact Sort.permIn_all d _ a (i + 1) (fun z => z.t ≤ d[l]!.t) (by omega) hp (fun x x1 x2 => ht x l x1 (by omega) (by omega) k4) k k1 c
    · rw [hp.2.1 k (by omega)]
      exact ht k l k1 k2 (by omega) k4
theorem ins_sorts {a b : Nat} {d : Array TI} (hab : a ≤ b) (hb : b ≤ d.size) (ht : ∀ k l, a ≤ k → k < l → l < b → d[k]!.t ≤ d[l]!.t) : Sort.PermIn a b d (Sort.insertionSort (ltOf cfT) d a b) ∧ SortedT a b (Sort.insertionSort (ltOf cfT) d a b) := by
  have e : Sort.insertionSort (ltOf cfT) d a b = Sort.insertionSort tlt d a b := by
    unfold Sort.insertionSort
    exact ins_outer_eq a b (b - (a + 1)) (a + 1) d rfl (by omega) hb (fun k l k1 k2 _ k4 => ht k l k1 k2 k4)
  rw [e]
  have h := Sort.insertionSort_holds (lt := tlt) tlt_swo d a b hab hb
  exact ⟨h.1, fun i j hi hij hj => tlt_false.1 (h.2 i j hi hij hj)⟩

end Go.Proofs.Ytaeaeejfaffbpaa.HFnExactSortMarks
