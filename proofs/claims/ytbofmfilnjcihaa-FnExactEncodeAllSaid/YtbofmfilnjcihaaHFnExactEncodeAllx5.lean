/- Written by wip/pr.py of this session, for the law FnExactEncodeAll: Lean functions with the answers of the program's, and the proofs of that; where the kit's print has no word, by hand. -/
import Derived.Test.YtbofmfilnjcihaaHFnExactEncodeAllx0
import Derived.Test.YtbofmfilnjcihaaHFnExactEncodeAllx4
namespace Go.Proofs.Ytbofmfilnjcihaa.HFnExactEncodeAll
open Go.RowKit Go.Proofs.YtbofmfilnjcihaaW.PrintWords Go.Proofs.YtbofmfilnjcihaaW.PrintLast Go.Proofs.YtbofmfilnjcihaaW.PrintMore
attribute [local go_sem] max2_int min2_int max_two min_two max_three min_three max_four min_four   -- for this text's walks alone
set_option linter.unusedVariables false
set_option linter.unusedSimpArgs false

/-! ### impl_areRunes: function 21 -/
/-- The place of the first for which p holds, or -1. -/
def ixOf {α : Type} (p : α → Bool) : List α → Int
  | [] => -1
  | x :: r => if p x = true then 0 else if ixOf p r < 0 then -1 else ixOf p r + 1
theorem ixOf_any {α : Type} (p : α → Bool) (l : List α) : decide (0 ≤ ixOf p l) = l.any p ∧ -1 ≤ ixOf p l := by
  induction l with
  | nil => exact ⟨rfl, Int.le_refl _⟩
  | cons x r ih =>
    obtain ⟨h1, h2⟩ := ih
    rw [List.any_cons, ← h1]
    cases hp : p x with
    | true => simp [ixOf, hp]
    | false =>
      by_cases h : ixOf p r < 0
      · simp only [ixOf, hp, Bool.false_eq_true, if_false, if_pos h, Bool.false_or]
        exact ⟨by rw [Bool.eq_iff_iff]; simp; omega, by omega⟩
      · simp only [ixOf, hp, Bool.false_eq_true, if_false, if_neg h, Bool.false_or]
        exact ⟨by rw [Bool.eq_iff_iff]; simp; omega, by omega⟩
theorem ixOf_hit {α : Type} (p : α → Bool) : ∀ (l : List α) (k : Nat) (h : k < l.length), (∀ j (hj : j < l.length), j < k → p l[j] = false) → p l[k] = true → ixOf p l = (k : Int)
  | [], k, h, _, _ => absurd h (Nat.not_lt_zero _)
  | x :: r, 0, h, _, hp => by simp at hp; simp [ixOf, hp]
  | x :: r, k + 1, h, hj, hp => by
    have h0 : p x = false := hj 0 (by simp) (by omega)
    have ih := ixOf_hit p r k (by simpa using h) (fun j hj' hlt => hj (j + 1) (by simp; omega) (by omega)) hp
    have : ¬ ((k : Int) < 0) := by omega
    simp [ixOf, h0, ih, this]
theorem ixOf_miss {α : Type} (p : α → Bool) (l : List α) (h : ∀ j (hj : j < l.length), p l[j] = false) : ixOf p l = -1 := by
  have h1 : l.any p = false := by
    rw [List.any_eq_false]
    intro x hx
    obtain ⟨j, hj, rfl⟩ := List.mem_iff_getElem.1 hx
    simp [h j hj]
  have h2 := ixOf_any p l
  rw [h1] at h2
  have := of_decide_eq_false h2.1
  omega

theorem ixInt (p : Int → Bool) (g : Nat) (lb : Array Value) (eg : ∀ args w, (callFunc g args).run Try.prog w = .ok (.enter g args) w) (A : Option Addr) (c : Nat) (zs : List Int) (w : World)
    (hp : ∀ (W : World) (x : Int), Below w.heap.size w W → Calls Try.prog g (#[.int .i64 x] ++ lb) W fun e w' => e = .returned (.bool (p x)) ∧ Below W.heap.size W w')
    (hr : Kd.C (Kd.int .i64) w A zs.length zs) :
    Calls Try.prog 46 #[.slice A zs.length c, .func (.func g) #[] lb] w fun e w' => e = .returned (.int .i64 (ixOf p zs)) ∧ Below w.heap.size w w' := by
  have hbig : zs.length ≤ 9223372036854775807 := hr.2.1
  have HR := Aside0.mk hr
  have HP := Aside0.mk hp
  clear hr hp
  go_enter Try.func46, Try.ntmps46
  go_wp2
  go_loopg [5, 8] zs.length (fun gg _ s8 wr => ∃ kk : Nat, kk ≤ zs.length ∧ zs.length - kk ≤ gg ∧ s8 = .int .i64 kk ∧ Aside0 (Below w.heap.size w wr) ∧ Aside0 (∀ j (hj : j < zs.length), j < kk → p zs[j] = false))
  case atStart => exact ⟨0, Nat.zero_le _, by omega, rfl, ⟨Below.refl _ _⟩, ⟨fun j _ hj => absurd hj (Nat.not_lt_zero _)⟩⟩
  case round =>
    obtain ⟨kk, hkk, hg, rfl, HB, HA⟩ := hrel
    by_cases hlt : kk < zs.length
    · have hltz : (kk : Int) < (zs.length : Int) := by omega
      obtain ⟨ad, e0, hx0⟩ := Kd.at_int HR.out (kk : Int) (by omega) hltz
      subst e0
      have ek : rd zs (kk : Int) = zs[kk] := by unfold rd; simp [List.getD_eq_getElem?_getD, hlt]
      rw [ek] at hx0
      simp only [Int.toNat_natCast] at hx0
      replace hx0 := (HB.out.cell (World.block_lt_of_cell? w _ hx0)).trans hx0
      have EK := Aside0.mk ek
      clear ek
      have hcall := HP.out _ zs[kk] HB.out
      cases hq : p zs[kk] with
      | true =>
        rw [hq] at hcall
        have HQ := Aside0.mk hq
        clear hq
        go_wp2_with (go_at_fn g; refine hcall.mono ?_; rintro e w' ⟨rfl, hb⟩)
        go_ret
        exact ⟨by rw [ixOf_hit p zs kk hlt HA.out HQ.out]; rfl, HB.out.trans (hb.mono HB.out.size)⟩
      | false =>
        rw [hq] at hcall
        have HQ := Aside0.mk hq
        clear hq
        go_wp2_with (go_at_fn g; refine hcall.mono ?_; rintro e w' ⟨rfl, hb⟩)
        go_roundg (zs.length - (kk + 1))
        case measure => omega
        case rel =>
          refine ⟨kk + 1, by omega, by omega, by go_num, ⟨HB.out.trans (hb.mono HB.out.size)⟩, ⟨fun j hj hjk => ?_⟩⟩
          by_cases e : j = kk
          · subst e
            exact HQ.out
          · exact HA.out j hj (by omega)
    · have hltz : ¬ (kk : Int) < (zs.length : Int) := by omega
      have hk2 : kk = zs.length := by omega
      have HK := Aside0.mk hk2
      clear hk2
      go_wp2
      go_ret
      exact ⟨by rw [ixOf_miss p zs (fun j hj => HA.out j hj (by rw [HK.out]; exact hj))]; rfl, HB.out⟩

theorem hasInt (p : Int → Bool) (g : Nat) (lb : Array Value) (eg : ∀ args w, (callFunc g args).run Try.prog w = .ok (.enter g args) w) (A : Option Addr) (c : Nat) (zs : List Int) (w : World)
    (hp : ∀ (W : World) (x : Int), Below w.heap.size w W → Calls Try.prog g (#[.int .i64 x] ++ lb) W fun e w' => e = .returned (.bool (p x)) ∧ Below W.heap.size W w')
    (hr : Kd.C (Kd.int .i64) w A zs.length zs) :
    Calls Try.prog 31 #[.slice A zs.length c, .func (.func g) #[] lb] w fun e w' => e = .returned (.bool (zs.any p)) ∧ Below w.heap.size w w' := by
  have hc := ixInt p g lb eg A c zs w hp hr
  have h2 := (ixOf_any p zs).1
  clear hp hr
  generalize ixOf p zs = i at hc h2
  have H2 := Aside0.mk h2
  clear h2
  go_enter Try.func31, Try.ntmps31
  go_wp2_with (go_at_call 46; refine hc.mono ?_; rintro e w' ⟨rfl, hb⟩)
  go_ret
  exact ⟨by rw [H2.out]; rfl, hb⟩

def goodRuneV (r : Int) : Bool := decide (0 ≤ r ∧ r ≤ 1114111) && !decide (55296 ≤ r ∧ r ≤ 57343)
theorem goodRuneV_f (r : Int) : impl_GoodRune.f r = some (goodRuneV r) := by
  have e : ∀ a b c : Int, impl_inRange.f a b c = some (decide (b ≤ a ∧ a ≤ c)) := fun a b c => by
    unfold impl_inRange.f
    by_cases h : b ≤ a
    · rw [if_pos h]; simp [h]
    · rw [if_neg h]; simp [h]
  unfold impl_GoodRune.f goodRuneV
  rw [e, e]
  simp only [Option.bind_some]
  cases h : decide (0 ≤ r ∧ r ≤ 1114111) <;> simp
def badRuneV (r : Int) : Bool := !goodRuneV r
/-- The closure of areRunes. -/
theorem areRunes_pred (W : World) (x : Int) :
    Calls Try.prog 32 (#[.int .i64 x] ++ #[]) W fun e w' => e = .returned (.bool (badRuneV x)) ∧ Below W.heap.size W w' := by
  have hv := goodRuneV_f x
  have hb : badRuneV x = !goodRuneV x := rfl
  generalize goodRuneV x = q at hv hb
  have HV := Aside0.mk hv
  have HB := Aside0.mk hb
  clear hv hb
  show Calls Try.prog 32 #[.int .i64 x] W _
  go_enter Try.func32, Try.ntmps32
  go_wp2_with (go_at_call 33; refine (impl_GoodRune.calls x q _ HV.out).mono ?_; rintro e w' ⟨rfl, ⟨nd, rfl⟩⟩)
  go_ret
  exact ⟨by rw [HB.out]; rfl, by repeat (first | (with_reducible first | exact Below.refl _ _ | apply pw_below_drewN | apply below_drew1 | apply below_alloc))⟩
def areRunesV (l : List Int) (m : Int) : Bool := if (l.length : Int) ≤ m then !l.any badRuneV else false
def impl_areRunes.f (l0 : List Int) (a1 : Int) : Option (Bool) := some (areRunesV l0 a1)
set_option maxHeartbeats 8000000 in
theorem impl_areRunes.calls (A0 : Option Addr) (c0 : Nat) (l0 : List Int) (a1 : Int) (r : Bool) (w : World) (hr0 : Kd.C (Kd.int .i64) w A0 l0.length l0) (hc0 : l0.length ≤ c0) (h : impl_areRunes.f l0 a1 = some r) :
    Calls Try.prog 21 #[.slice A0 l0.length c0, .int .i64 a1] w fun e w' => e = .returned (.bool r) ∧ Below w.heap.size w w' := by
  obtain rfl := Option.some.inj h
  clear h
  have eg : ∀ args w, (callFunc 32 args).run Try.prog w = .ok (.enter 32 args) w := enters_of Try.func32 (by kernel_rfl) rfl
  have cH := fun (W : World) (hC : Kd.C (Kd.int .i64) W A0 l0.length l0) => hasInt badRuneV 32 #[] eg A0 c0 l0 W (fun W' x _ => areRunes_pred W' x) hC
  have CH := Aside0.mk cH
  have HR := Aside0.mk hr0
  clear cH hr0
  by_cases hm : (l0.length : Int) ≤ a1
  · have hd : decide ((l0.length : Int) ≤ a1) = true := decide_eq_true hm
    have ha : areRunesV l0 a1 = !l0.any badRuneV := if_pos hm
    have HA := Aside0.mk ha
    clear hm ha
    go_enter Try.func21, Try.ntmps21
    go_wp2_with (go_at_call 31; refine (CH.out _ (Kd.C_below HR.out (by repeat (first | (with_reducible first | exact Below.refl _ _ | apply pw_below_drewN | apply below_drew1 | apply below_alloc))))).mono ?_; rintro e w' ⟨rfl, hb⟩)
    go_ret
    exact ⟨by rw [HA.out]; rfl, hb⟩
  · have hd : decide ((l0.length : Int) ≤ a1) = false := decide_eq_false hm
    have ha : areRunesV l0 a1 = false := if_neg hm
    have HA := Aside0.mk ha
    clear hm ha
    go_enter Try.func21, Try.ntmps21
    go_wp2
    go_ret
    exact ⟨by rw [HA.out]; rfl, Below.refl _ _⟩

/-! ### impl_isCode: function 25 -/
def impl_isCode.f (a0 : Int) : Option (Bool) := (impl_inRange.f a0 1 5).bind fun t162 => (some t162)
set_option maxHeartbeats 8000000 in
set_option maxRecDepth 100000 in
theorem impl_isCode.calls (a0 : Int) (r : Bool) (w : World) (h : impl_isCode.f a0 = some r) :
    Calls Try.prog 25 #[.int .i64 a0] w fun e w' => e = .returned (.bool r) ∧ Drawn0 w w' := by
  have H : ((impl_inRange.f a0 1 5).bind fun t162 => (some t162)) = some r := h
  clear h
  replace H := Option.bind_eq_some_iff.mp H
  obtain ⟨t162, A20, H⟩ := H
  replace H : (some t162) = some r := H
  have A2 := Aside0.mk A20
  clear A20
  obtain rfl := Option.some.inj H
  go_enter Try.func25, Try.ntmps25
  go_wp2_with (first | ((with_reducible refine gate_callee (f := 38) rfl ?_); refine goesL_ (some 4) rfl rfl Try.func38 (by kernel_rfl) rfl #[.int .i64 a0, .int .i64 1, .int .i64 5] rfl (by (try simp only [List.map_toArray, List.map_cons, List.map_nil]); first | done | rfl | (simp only [List.length_drop, List.length_take]; rfl)) ?_; (with_reducible refine (impl_inRange.calls a0 1 5 t162 _ A2.out).mono ?_); rintro e w' ⟨rfl, ⟨nd, rfl⟩⟩; refine ⟨_, rfl, ?_⟩))
  go_ret
  exact ⟨by first | rfl | (simp; done) | (simp [*]; done), by repeat (first | exact Drawn0.refl _ | apply Drawn0.step)⟩

/-! ### impl_canWrite: function 26 -/
def impl_canWrite.f (a0 : Int) (a1 : Int) : Option (Bool) := if a0 = 4 then (some (decide (a1 ≤ 255))) else (if a0 = 5 then (if a1 < 127 then (if a1 = 14 then ((impl_inRange.f a1 12352 12446).bind fun t163 => (some t163)) else (if a1 = 15 then ((impl_inRange.f a1 12352 12446).bind fun t164 => (some t164)) else (some true))) else ((impl_inRange.f a1 12352 12446).bind fun t165 => (some t165))) else (some true))
set_option maxHeartbeats 8000000 in
set_option maxRecDepth 100000 in
theorem impl_canWrite.calls (a0 : Int) (a1 : Int) (r : Bool) (w : World) (h : impl_canWrite.f a0 a1 = some r) :
    Calls Try.prog 26 #[.int .i64 a0, .int .i64 a1] w fun e w' => e = .returned (.bool r) ∧ Drawn0 w w' := by
  have H : (if a0 = 4 then (some (decide (a1 ≤ 255))) else (if a0 = 5 then (if a1 < 127 then (if a1 = 14 then ((impl_inRange.f a1 12352 12446).bind fun t163 => (some t163)) else (if a1 = 15 then ((impl_inRange.f a1 12352 12446).bind fun t164 => (some t164)) else (some true))) else ((impl_inRange.f a1 12352 12446).bind fun t165 => (some t165))) else (some true))) = some r := h
  clear h
  by_cases c3 : a0 = 4
  · rw [if_pos c3] at H
    have c3b0 : (a0 == 4) = true := beq_iff_eq.mpr c3
    have c3b1 : (a0 != 4) = false := bne_eq_false_iff_eq.mpr c3
    clear c3
    obtain rfl := Option.some.inj H
    go_enter Try.func26, Try.ntmps26
    go_wp2
    go_ret
    exact ⟨by first | rfl | (simp; done) | (simp [*]; done), by repeat (first | exact Drawn0.refl _ | apply Drawn0.step)⟩
  · rw [if_neg c3] at H
    have c3b0 : (a0 == 4) = false := beq_eq_false_iff_ne.mpr c3
    have c3b1 : (a0 != 4) = true := bne_iff_ne.mpr c3
    by_cases c4 : a0 = 5
    · rw [if_pos c4] at H
      have c4b0 : (a0 == 5) = true := beq_iff_eq.mpr c4
      have c4b1 : (a0 != 5) = false := bne_eq_false_iff_eq.mpr c4
      clear c4
      by_cases c5 : a1 < 127
      · rw [if_pos c5] at H
        have c5b0 : decide (a1 < 127) = true := decide_eq_true c5
        clear c5
        by_cases c6 : a1 = 14
        · rw [if_pos c6] at H
          have c6b0 : (a1 == 14) = true := beq_iff_eq.mpr c6
          have c6b1 : (a1 != 14) = false := bne_eq_false_iff_eq.mpr c6
          clear c6
          replace H := Option.bind_eq_some_iff.mp H
          obtain ⟨t163, A70, H⟩ := H
          replace H : (some t163) = some r := H
          have A7 := Aside0.mk A70
          clear A70
          obtain rfl := Option.some.inj H
          go_enter Try.func26, Try.ntmps26
          go_wp2_with (first | (go_at_call 38; (with_reducible refine (impl_inRange.calls a1 12352 12446 t163 _ A7.out).mono ?_); rintro e w' ⟨rfl, ⟨nd, rfl⟩⟩))
          go_ret
          exact ⟨by first | rfl | (simp; done) | (simp [*]; done), by repeat (first | exact Drawn0.refl _ | apply Drawn0.step)⟩
        · rw [if_neg c6] at H
          have c6b0 : (a1 == 14) = false := beq_eq_false_iff_ne.mpr c6
          have c6b1 : (a1 != 14) = true := bne_iff_ne.mpr c6
          by_cases c8 : a1 = 15
          · rw [if_pos c8] at H
            have c8b0 : (a1 == 15) = true := beq_iff_eq.mpr c8
            have c8b1 : (a1 != 15) = false := bne_eq_false_iff_eq.mpr c8
            clear c8
            replace H := Option.bind_eq_some_iff.mp H
            obtain ⟨t164, A90, H⟩ := H
            replace H : (some t164) = some r := H
            have A9 := Aside0.mk A90
            clear A90
            obtain rfl := Option.some.inj H
            go_enter Try.func26, Try.ntmps26
            go_wp2_with (first | (go_at_call 38; (with_reducible refine (impl_inRange.calls a1 12352 12446 t164 _ A9.out).mono ?_); rintro e w' ⟨rfl, ⟨nd, rfl⟩⟩))
            go_ret
            exact ⟨by first | rfl | (simp; done) | (simp [*]; done), by repeat (first | exact Drawn0.refl _ | apply Drawn0.step)⟩
          · rw [if_neg c8] at H
            have c8b0 : (a1 == 15) = false := beq_eq_false_iff_ne.mpr c8
            have c8b1 : (a1 != 15) = true := bne_iff_ne.mpr c8
            obtain rfl := Option.some.inj H
            go_enter Try.func26, Try.ntmps26
            go_wp2
            go_ret
            exact ⟨by first | rfl | (simp; done) | (simp [*]; done), by repeat (first | exact Drawn0.refl _ | apply Drawn0.step)⟩
      · rw [if_neg c5] at H
        have c5b0 : decide (a1 < 127) = false := decide_eq_false c5
        clear c5
        replace H := Option.bind_eq_some_iff.mp H
        obtain ⟨t165, A100, H⟩ := H
        replace H : (some t165) = some r := H
        have A10 := Aside0.mk A100
        clear A100
        obtain rfl := Option.some.inj H
        go_enter Try.func26, Try.ntmps26
        go_wp2_with (first | (go_at_call 38; (with_reducible refine (impl_inRange.calls a1 12352 12446 t165 _ A10.out).mono ?_); rintro e w' ⟨rfl, ⟨nd, rfl⟩⟩))
        go_ret
        exact ⟨by first | rfl | (simp; done) | (simp [*]; done), by repeat (first | exact Drawn0.refl _ | apply Drawn0.step)⟩
    · rw [if_neg c4] at H
      have c4b0 : (a0 == 5) = false := beq_eq_false_iff_ne.mpr c4
      have c4b1 : (a0 != 5) = true := bne_iff_ne.mpr c4
      obtain rfl := Option.some.inj H
      go_enter Try.func26, Try.ntmps26
      go_wp2
      go_ret
      exact ⟨by first | rfl | (simp; done) | (simp [*]; done), by repeat (first | exact Drawn0.refl _ | apply Drawn0.step)⟩

end Go.Proofs.Ytbofmfilnjcihaa.HFnExactEncodeAll
