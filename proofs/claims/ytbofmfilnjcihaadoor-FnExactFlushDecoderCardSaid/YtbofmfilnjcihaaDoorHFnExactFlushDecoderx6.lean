/- Written by wip/pr.py of this session, for the law FnExactFlushDecoder: Lean functions with the answers of the program's, and the proofs of that; where the kit's print has no word, by hand. -/
import Derived.Test.YtbofmfilnjcihaaDoorHFnExactFlushDecoderx0
namespace Go.Proofs.YtbofmfilnjcihaaDoor.HFnExactFlushDecoder
open Go.RowKit Go.Proofs.YtbofmfilnjcihaaDoorW.PrintWords Go.Proofs.YtbofmfilnjcihaaDoorW.PrintLast Go.Proofs.YtbofmfilnjcihaaDoorW.PrintMore
attribute [local go_sem] max2_int min2_int max_two min_two max_three min_three max_four min_four   -- for this text's walks alone
set_option linter.unusedVariables false
set_option linter.unusedSimpArgs false

/-! ### utf8_FullRuneInString: function 51 -/
/-- Go's two tables of utf8, where this seat's variables lie. -/
def Tabs (w : World) : Prop := Lib.Utf8Tabs 0 1 w
theorem Tabs.below {w w' : World} (h : Tabs w) (hb : Below w.heap.size w w') : Tabs w' := Utf8Tabs_below h hb
theorem str_at (s : ByteArray) (i : Nat) (h : i < s.size) : s[i]'h = s.get! i := (Utf8W.get!_of_lt s i h).symm
theorem full_and (X : Nat) (hX : X = 240 ∨ X = 241 ∨ X = 2 ∨ X = 19 ∨ X = 3 ∨ X = 35 ∨ X = 52 ∨ X = 4 ∨ X = 68) : bits .and .u8 (X : Int) 7 = ((X % 8 : Nat) : Int) := by
  rcases hX with h | h | h | h | h | h | h | h | h <;> subst h <;> decide
/-- What utf8.FullRuneInString says of a first byte's entry x, the length and two bytes more. -/
def fullV (n x b1 b2 : Nat) : Bool :=
  if n = 0 then false else if x % 8 ≤ n then true
  else if 1 < n ∧ (b1 < Lib.accLo (x / 16) ∨ Lib.accHi (x / 16) < b1) then true
  else if 2 < n ∧ (b2 < 128 ∨ 191 < b2) then true else false
def utf8_FullRuneInString.f (a0 : ByteArray) : Option (Bool) := some (fullV a0.size (Lib.firstT (a0.get! 0).toNat) (a0.get! 1).toNat (a0.get! 2).toNat)
set_option maxHeartbeats 8000000 in
set_option maxRecDepth 1000000 in
theorem full_gen (s : ByteArray) (w : World) (X a lo hi : Nat) (hz : 0 < s.size) (hX : X = 240 ∨ X = 241 ∨ X = 2 ∨ X = 19 ∨ X = 3 ∨ X = 35 ∨ X = 52 ∨ X = 4 ∨ X = 68)
    (hc : w.cell? ⟨0, (s.get! 0).toNat, none⟩ = some (.int .u8 X)) (ha : X / 16 = a) (h0 : w.cell? ⟨1, 2 * a, none⟩ = some (.int .u8 lo)) (h1 : w.cell? ⟨1, 2 * a + 1, none⟩ = some (.int .u8 hi)) (hlo : Lib.accLo a = lo) (hhi : Lib.accHi a = hi) (hl : lo < 256) (hh : hi < 256) :
    Calls Tryd.prog 51 #[.string s] w fun e w' => e = .returned (.bool (fullV s.size X (s.get! 1).toNat (s.get! 2).toNat)) ∧ Below w.heap.size w w' := by
  have hs0 := str_at s 0 hz
  obtain ⟨x0, hx0⟩ : ∃ x0, s.get! 0 = x0 := ⟨_, rfl⟩
  obtain ⟨x1, hx1⟩ : ∃ x1, s.get! 1 = x1 := ⟨_, rfl⟩
  obtain ⟨x2, hx2⟩ : ∃ x2, s.get! 2 = x2 := ⟨_, rfl⟩
  rw [hx0] at hs0 hc
  rw [hx1, hx2]
  have l0 := x0.toNat_lt; have l1 := x1.toNat_lt; have l2 := x2.toNat_lt
  obtain ⟨r, hr⟩ : ∃ r, fullV s.size X x1.toNat x2.toNat = r := ⟨_, rfl⟩
  rw [hr]
  unfold fullV at hr
  rw [if_neg (show ¬ s.size = 0 by omega), ha, hlo, hhi] at hr
  clear hlo hhi
  have hza : (0 : Int) < (s.size : Int) := by omega
  have hz' : ((s.size : Int) == 0) = false := beq_eq_false_iff_ne.mpr (by omega)
  rcases hX with rfl | rfl | rfl | rfl | rfl | rfl | rfl | rfl | rfl
  all_goals (simp only [Nat.reduceDiv] at ha; subst ha; simp only [Nat.reduceMul, Nat.reduceAdd, Nat.reduceMod] at h0 h1 hr)
  · rw [if_pos (show 0 ≤ s.size by omega)] at hr; subst hr
    have hg : decide ((0 : Int) ≤ (s.size : Int)) = true := decide_eq_true (by omega)
    clear hx0 hx1 hx2
    go_enter Tryd.func51, Tryd.ntmps51
    go_wp2
    go_ret
    exact ⟨rfl, Below.refl _ _⟩
  · rw [if_pos (show 1 ≤ s.size by omega)] at hr; subst hr
    have hg : decide ((1 : Int) ≤ (s.size : Int)) = true := decide_eq_true (by omega)
    clear hx0 hx1 hx2
    go_enter Tryd.func51, Tryd.ntmps51
    go_wp2
    go_ret
    exact ⟨rfl, Below.refl _ _⟩
  · by_cases hn : 2 ≤ s.size
    · rw [if_pos hn] at hr; subst hr
      have hg : decide ((2 : Int) ≤ (s.size : Int)) = true := decide_eq_true (by omega)
      clear hx0 hx1 hx2 hn
      go_enter Tryd.func51, Tryd.ntmps51
      go_wp2
      go_ret
      exact ⟨rfl, Below.refl _ _⟩
    · rw [if_neg hn] at hr
      have hg : decide ((2 : Int) ≤ (s.size : Int)) = false := decide_eq_false (by omega)
      have hsz : s.size = 1 := by omega
      have hi1 : decide ((s.size : Int) > 1) = false := decide_eq_false (by omega)
      have hi2 : decide ((s.size : Int) > 2) = false := decide_eq_false (by omega)
      rw [hsz] at hr
      clear hx0 hx1 hx2 hn hsz
      simp only [show ¬ (1 < 1) by omega, show ¬ (2 < 1) by omega, false_and, if_false] at hr
      subst hr
      go_enter Tryd.func51, Tryd.ntmps51
      go_wp2
      go_quiet (fail)
      go_wp2
      go_ret
      exact ⟨rfl, by repeat (first | (with_reducible first | exact Below.refl _ _ | apply pw_below_drewN | apply below_drew1 | apply below_alloc))⟩
  · by_cases hn : 3 ≤ s.size
    · rw [if_pos hn] at hr; subst hr
      have hg : decide ((3 : Int) ≤ (s.size : Int)) = true := decide_eq_true (by omega)
      clear hx0 hx1 hx2 hn
      go_enter Tryd.func51, Tryd.ntmps51
      go_wp2
      go_ret
      exact ⟨rfl, Below.refl _ _⟩
    · rw [if_neg hn] at hr
      have hg : decide ((3 : Int) ≤ (s.size : Int)) = false := decide_eq_false (by omega)
      rcases (show s.size = 1 ∨ s.size = 2 by omega) with hsz | hsz
      · have hi1 : decide ((s.size : Int) > 1) = false := decide_eq_false (by omega)
        have hi2 : decide ((s.size : Int) > 2) = false := decide_eq_false (by omega)
        rw [hsz] at hr
        clear hx0 hx1 hx2 hn hsz
        simp only [show ¬ (1 < 1) by omega, show ¬ (2 < 1) by omega, false_and, if_false] at hr
        subst hr
        go_enter Tryd.func51, Tryd.ntmps51
        go_wp2
        go_quiet (fail)
        go_wp2
        go_ret
        exact ⟨rfl, by repeat (first | (with_reducible first | exact Below.refl _ _ | apply pw_below_drewN | apply below_drew1 | apply below_alloc))⟩
      · have hi1 : decide ((s.size : Int) > 1) = true := decide_eq_true (by omega)
        have hi2 : decide ((s.size : Int) > 2) = false := decide_eq_false (by omega)
        have ht1 : 1 < s.size := by omega
        have hs1 := str_at s 1 ht1
        rw [hx1] at hs1
        have hz1 : (1 : Int) < (s.size : Int) := by omega
        rw [hsz] at hr
        clear hx0 hx1 hx2 hn hsz
        by_cases q1 : x1.toNat < lo
        · have d1 : decide (x1.toNat < lo) = true := decide_eq_true (by omega)
          rw [if_pos (show 1 < 2 ∧ (x1.toNat < lo ∨ hi < x1.toNat) from ⟨by omega, Or.inl q1⟩)] at hr
          subst hr
          clear q1
          go_enter Tryd.func51, Tryd.ntmps51
          go_wp2
          go_quiet (fail)
          go_wp2
          go_ret
          exact ⟨rfl, by repeat (first | (with_reducible first | exact Below.refl _ _ | apply pw_below_drewN | apply below_drew1 | apply below_alloc))⟩
        have d1 : decide (x1.toNat < lo) = false := decide_eq_false (by omega)
        by_cases q2 : hi < x1.toNat
        · have d2 : decide (hi < x1.toNat) = true := decide_eq_true (by omega)
          rw [if_pos (show 1 < 2 ∧ (x1.toNat < lo ∨ hi < x1.toNat) from ⟨by omega, Or.inr q2⟩)] at hr
          subst hr
          clear q1 q2
          go_enter Tryd.func51, Tryd.ntmps51
          go_wp2
          go_quiet (fail)
          go_wp2
          go_ret
          exact ⟨rfl, by repeat (first | (with_reducible first | exact Below.refl _ _ | apply pw_below_drewN | apply below_drew1 | apply below_alloc))⟩
        have d2 : decide (hi < x1.toNat) = false := decide_eq_false (by omega)
        rw [if_neg (show ¬ (1 < 2 ∧ (x1.toNat < lo ∨ hi < x1.toNat)) by omega)] at hr
        clear q1 q2
        rw [if_neg (show ¬ (2 < 2 ∧ (x2.toNat < 128 ∨ 191 < x2.toNat)) by omega)] at hr
        subst hr
        go_enter Tryd.func51, Tryd.ntmps51
        go_wp2
        go_quiet (fail)
        go_wp2
        go_ret
        exact ⟨rfl, by repeat (first | (with_reducible first | exact Below.refl _ _ | apply pw_below_drewN | apply below_drew1 | apply below_alloc))⟩
  · by_cases hn : 3 ≤ s.size
    · rw [if_pos hn] at hr; subst hr
      have hg : decide ((3 : Int) ≤ (s.size : Int)) = true := decide_eq_true (by omega)
      clear hx0 hx1 hx2 hn
      go_enter Tryd.func51, Tryd.ntmps51
      go_wp2
      go_ret
      exact ⟨rfl, Below.refl _ _⟩
    · rw [if_neg hn] at hr
      have hg : decide ((3 : Int) ≤ (s.size : Int)) = false := decide_eq_false (by omega)
      rcases (show s.size = 1 ∨ s.size = 2 by omega) with hsz | hsz
      · have hi1 : decide ((s.size : Int) > 1) = false := decide_eq_false (by omega)
        have hi2 : decide ((s.size : Int) > 2) = false := decide_eq_false (by omega)
        rw [hsz] at hr
        clear hx0 hx1 hx2 hn hsz
        simp only [show ¬ (1 < 1) by omega, show ¬ (2 < 1) by omega, false_and, if_false] at hr
        subst hr
        go_enter Tryd.func51, Tryd.ntmps51
        go_wp2
        go_quiet (fail)
        go_wp2
        go_ret
        exact ⟨rfl, by repeat (first | (with_reducible first | exact Below.refl _ _ | apply pw_below_drewN | apply below_drew1 | apply below_alloc))⟩
      · have hi1 : decide ((s.size : Int) > 1) = true := decide_eq_true (by omega)
        have hi2 : decide ((s.size : Int) > 2) = false := decide_eq_false (by omega)
        have ht1 : 1 < s.size := by omega
        have hs1 := str_at s 1 ht1
        rw [hx1] at hs1
        have hz1 : (1 : Int) < (s.size : Int) := by omega
        rw [hsz] at hr
        clear hx0 hx1 hx2 hn hsz
        by_cases q1 : x1.toNat < lo
        · have d1 : decide (x1.toNat < lo) = true := decide_eq_true (by omega)
          rw [if_pos (show 1 < 2 ∧ (x1.toNat < lo ∨ hi < x1.toNat) from ⟨by omega, Or.inl q1⟩)] at hr
          subst hr
          clear q1
          go_enter Tryd.func51, Tryd.ntmps51
          go_wp2
          go_quiet (fail)
          go_wp2
          go_ret
          exact ⟨rfl, by repeat (first | (with_reducible first | exact Below.refl _ _ | apply pw_below_drewN | apply below_drew1 | apply below_alloc))⟩
        have d1 : decide (x1.toNat < lo) = false := decide_eq_false (by omega)
        by_cases q2 : hi < x1.toNat
        · have d2 : decide (hi < x1.toNat) = true := decide_eq_true (by omega)
          rw [if_pos (show 1 < 2 ∧ (x1.toNat < lo ∨ hi < x1.toNat) from ⟨by omega, Or.inr q2⟩)] at hr
          subst hr
          clear q1 q2
          go_enter Tryd.func51, Tryd.ntmps51
          go_wp2
          go_quiet (fail)
          go_wp2
          go_ret
          exact ⟨rfl, by repeat (first | (with_reducible first | exact Below.refl _ _ | apply pw_below_drewN | apply below_drew1 | apply below_alloc))⟩
        have d2 : decide (hi < x1.toNat) = false := decide_eq_false (by omega)
        rw [if_neg (show ¬ (1 < 2 ∧ (x1.toNat < lo ∨ hi < x1.toNat)) by omega)] at hr
        clear q1 q2
        rw [if_neg (show ¬ (2 < 2 ∧ (x2.toNat < 128 ∨ 191 < x2.toNat)) by omega)] at hr
        subst hr
        go_enter Tryd.func51, Tryd.ntmps51
        go_wp2
        go_quiet (fail)
        go_wp2
        go_ret
        exact ⟨rfl, by repeat (first | (with_reducible first | exact Below.refl _ _ | apply pw_below_drewN | apply below_drew1 | apply below_alloc))⟩
  · by_cases hn : 3 ≤ s.size
    · rw [if_pos hn] at hr; subst hr
      have hg : decide ((3 : Int) ≤ (s.size : Int)) = true := decide_eq_true (by omega)
      clear hx0 hx1 hx2 hn
      go_enter Tryd.func51, Tryd.ntmps51
      go_wp2
      go_ret
      exact ⟨rfl, Below.refl _ _⟩
    · rw [if_neg hn] at hr
      have hg : decide ((3 : Int) ≤ (s.size : Int)) = false := decide_eq_false (by omega)
      rcases (show s.size = 1 ∨ s.size = 2 by omega) with hsz | hsz
      · have hi1 : decide ((s.size : Int) > 1) = false := decide_eq_false (by omega)
        have hi2 : decide ((s.size : Int) > 2) = false := decide_eq_false (by omega)
        rw [hsz] at hr
        clear hx0 hx1 hx2 hn hsz
        simp only [show ¬ (1 < 1) by omega, show ¬ (2 < 1) by omega, false_and, if_false] at hr
        subst hr
        go_enter Tryd.func51, Tryd.ntmps51
        go_wp2
        go_quiet (fail)
        go_wp2
        go_ret
        exact ⟨rfl, by repeat (first | (with_reducible first | exact Below.refl _ _ | apply pw_below_drewN | apply below_drew1 | apply below_alloc))⟩
      · have hi1 : decide ((s.size : Int) > 1) = true := decide_eq_true (by omega)
        have hi2 : decide ((s.size : Int) > 2) = false := decide_eq_false (by omega)
        have ht1 : 1 < s.size := by omega
        have hs1 := str_at s 1 ht1
        rw [hx1] at hs1
        have hz1 : (1 : Int) < (s.size : Int) := by omega
        rw [hsz] at hr
        clear hx0 hx1 hx2 hn hsz
        by_cases q1 : x1.toNat < lo
        · have d1 : decide (x1.toNat < lo) = true := decide_eq_true (by omega)
          rw [if_pos (show 1 < 2 ∧ (x1.toNat < lo ∨ hi < x1.toNat) from ⟨by omega, Or.inl q1⟩)] at hr
          subst hr
          clear q1
          go_enter Tryd.func51, Tryd.ntmps51
          go_wp2
          go_quiet (fail)
          go_wp2
          go_ret
          exact ⟨rfl, by repeat (first | (with_reducible first | exact Below.refl _ _ | apply pw_below_drewN | apply below_drew1 | apply below_alloc))⟩
        have d1 : decide (x1.toNat < lo) = false := decide_eq_false (by omega)
        by_cases q2 : hi < x1.toNat
        · have d2 : decide (hi < x1.toNat) = true := decide_eq_true (by omega)
          rw [if_pos (show 1 < 2 ∧ (x1.toNat < lo ∨ hi < x1.toNat) from ⟨by omega, Or.inr q2⟩)] at hr
          subst hr
          clear q1 q2
          go_enter Tryd.func51, Tryd.ntmps51
          go_wp2
          go_quiet (fail)
          go_wp2
          go_ret
          exact ⟨rfl, by repeat (first | (with_reducible first | exact Below.refl _ _ | apply pw_below_drewN | apply below_drew1 | apply below_alloc))⟩
        have d2 : decide (hi < x1.toNat) = false := decide_eq_false (by omega)
        rw [if_neg (show ¬ (1 < 2 ∧ (x1.toNat < lo ∨ hi < x1.toNat)) by omega)] at hr
        clear q1 q2
        rw [if_neg (show ¬ (2 < 2 ∧ (x2.toNat < 128 ∨ 191 < x2.toNat)) by omega)] at hr
        subst hr
        go_enter Tryd.func51, Tryd.ntmps51
        go_wp2
        go_quiet (fail)
        go_wp2
        go_ret
        exact ⟨rfl, by repeat (first | (with_reducible first | exact Below.refl _ _ | apply pw_below_drewN | apply below_drew1 | apply below_alloc))⟩
  · by_cases hn : 4 ≤ s.size
    · rw [if_pos hn] at hr; subst hr
      have hg : decide ((4 : Int) ≤ (s.size : Int)) = true := decide_eq_true (by omega)
      clear hx0 hx1 hx2 hn
      go_enter Tryd.func51, Tryd.ntmps51
      go_wp2
      go_ret
      exact ⟨rfl, Below.refl _ _⟩
    · rw [if_neg hn] at hr
      have hg : decide ((4 : Int) ≤ (s.size : Int)) = false := decide_eq_false (by omega)
      rcases (show s.size = 1 ∨ s.size = 2 ∨ s.size = 3 by omega) with hsz | hsz | hsz
      · have hi1 : decide ((s.size : Int) > 1) = false := decide_eq_false (by omega)
        have hi2 : decide ((s.size : Int) > 2) = false := decide_eq_false (by omega)
        rw [hsz] at hr
        clear hx0 hx1 hx2 hn hsz
        simp only [show ¬ (1 < 1) by omega, show ¬ (2 < 1) by omega, false_and, if_false] at hr
        subst hr
        go_enter Tryd.func51, Tryd.ntmps51
        go_wp2
        go_quiet (fail)
        go_wp2
        go_ret
        exact ⟨rfl, by repeat (first | (with_reducible first | exact Below.refl _ _ | apply pw_below_drewN | apply below_drew1 | apply below_alloc))⟩
      · have hi1 : decide ((s.size : Int) > 1) = true := decide_eq_true (by omega)
        have hi2 : decide ((s.size : Int) > 2) = false := decide_eq_false (by omega)
        have ht1 : 1 < s.size := by omega
        have hs1 := str_at s 1 ht1
        rw [hx1] at hs1
        have hz1 : (1 : Int) < (s.size : Int) := by omega
        rw [hsz] at hr
        clear hx0 hx1 hx2 hn hsz
        by_cases q1 : x1.toNat < lo
        · have d1 : decide (x1.toNat < lo) = true := decide_eq_true (by omega)
          rw [if_pos (show 1 < 2 ∧ (x1.toNat < lo ∨ hi < x1.toNat) from ⟨by omega, Or.inl q1⟩)] at hr
          subst hr
          clear q1
          go_enter Tryd.func51, Tryd.ntmps51
          go_wp2
          go_quiet (fail)
          go_wp2
          go_ret
          exact ⟨rfl, by repeat (first | (with_reducible first | exact Below.refl _ _ | apply pw_below_drewN | apply below_drew1 | apply below_alloc))⟩
        have d1 : decide (x1.toNat < lo) = false := decide_eq_false (by omega)
        by_cases q2 : hi < x1.toNat
        · have d2 : decide (hi < x1.toNat) = true := decide_eq_true (by omega)
          rw [if_pos (show 1 < 2 ∧ (x1.toNat < lo ∨ hi < x1.toNat) from ⟨by omega, Or.inr q2⟩)] at hr
          subst hr
          clear q1 q2
          go_enter Tryd.func51, Tryd.ntmps51
          go_wp2
          go_quiet (fail)
          go_wp2
          go_ret
          exact ⟨rfl, by repeat (first | (with_reducible first | exact Below.refl _ _ | apply pw_below_drewN | apply below_drew1 | apply below_alloc))⟩
        have d2 : decide (hi < x1.toNat) = false := decide_eq_false (by omega)
        rw [if_neg (show ¬ (1 < 2 ∧ (x1.toNat < lo ∨ hi < x1.toNat)) by omega)] at hr
        clear q1 q2
        rw [if_neg (show ¬ (2 < 2 ∧ (x2.toNat < 128 ∨ 191 < x2.toNat)) by omega)] at hr
        subst hr
        go_enter Tryd.func51, Tryd.ntmps51
        go_wp2
        go_quiet (fail)
        go_wp2
        go_ret
        exact ⟨rfl, by repeat (first | (with_reducible first | exact Below.refl _ _ | apply pw_below_drewN | apply below_drew1 | apply below_alloc))⟩
      · have hi1 : decide ((s.size : Int) > 1) = true := decide_eq_true (by omega)
        have hi2 : decide ((s.size : Int) > 2) = true := decide_eq_true (by omega)
        have ht1 : 1 < s.size := by omega
        have hs1 := str_at s 1 ht1
        rw [hx1] at hs1
        have hz1 : (1 : Int) < (s.size : Int) := by omega
        have ht2 : 2 < s.size := by omega
        have hs2 := str_at s 2 ht2
        rw [hx2] at hs2
        have hz2 : (2 : Int) < (s.size : Int) := by omega
        rw [hsz] at hr
        clear hx0 hx1 hx2 hn hsz
        by_cases q1 : x1.toNat < lo
        · have d1 : decide (x1.toNat < lo) = true := decide_eq_true (by omega)
          rw [if_pos (show 1 < 3 ∧ (x1.toNat < lo ∨ hi < x1.toNat) from ⟨by omega, Or.inl q1⟩)] at hr
          subst hr
          clear q1
          go_enter Tryd.func51, Tryd.ntmps51
          go_wp2
          go_quiet (fail)
          go_wp2
          go_ret
          exact ⟨rfl, by repeat (first | (with_reducible first | exact Below.refl _ _ | apply pw_below_drewN | apply below_drew1 | apply below_alloc))⟩
        have d1 : decide (x1.toNat < lo) = false := decide_eq_false (by omega)
        by_cases q2 : hi < x1.toNat
        · have d2 : decide (hi < x1.toNat) = true := decide_eq_true (by omega)
          rw [if_pos (show 1 < 3 ∧ (x1.toNat < lo ∨ hi < x1.toNat) from ⟨by omega, Or.inr q2⟩)] at hr
          subst hr
          clear q1 q2
          go_enter Tryd.func51, Tryd.ntmps51
          go_wp2
          go_quiet (fail)
          go_wp2
          go_ret
          exact ⟨rfl, by repeat (first | (with_reducible first | exact Below.refl _ _ | apply pw_below_drewN | apply below_drew1 | apply below_alloc))⟩
        have d2 : decide (hi < x1.toNat) = false := decide_eq_false (by omega)
        rw [if_neg (show ¬ (1 < 3 ∧ (x1.toNat < lo ∨ hi < x1.toNat)) by omega)] at hr
        clear q1 q2
        by_cases q1 : x2.toNat < 128
        · have e1 : decide ((x2.toNat : Int) < 128) = true := decide_eq_true (by omega)
          rw [if_pos (show 2 < 3 ∧ (x2.toNat < 128 ∨ 191 < x2.toNat) from ⟨by omega, Or.inl q1⟩)] at hr
          subst hr
          clear q1
          go_enter Tryd.func51, Tryd.ntmps51
          go_wp2
          go_quiet (fail)
          go_wp2
          go_ret
          exact ⟨rfl, by repeat (first | (with_reducible first | exact Below.refl _ _ | apply pw_below_drewN | apply below_drew1 | apply below_alloc))⟩
        have e1 : decide ((x2.toNat : Int) < 128) = false := decide_eq_false (by omega)
        by_cases q2 : 191 < x2.toNat
        · have e2 : decide ((191 : Int) < (x2.toNat : Int)) = true := decide_eq_true (by omega)
          rw [if_pos (show 2 < 3 ∧ (x2.toNat < 128 ∨ 191 < x2.toNat) from ⟨by omega, Or.inr q2⟩)] at hr
          subst hr
          clear q1 q2
          go_enter Tryd.func51, Tryd.ntmps51
          go_wp2
          go_quiet (fail)
          go_wp2
          go_ret
          exact ⟨rfl, by repeat (first | (with_reducible first | exact Below.refl _ _ | apply pw_below_drewN | apply below_drew1 | apply below_alloc))⟩
        have e2 : decide ((191 : Int) < (x2.toNat : Int)) = false := decide_eq_false (by omega)
        rw [if_neg (show ¬ (2 < 3 ∧ (x2.toNat < 128 ∨ 191 < x2.toNat)) by omega)] at hr
        subst hr
        clear q1 q2
        go_enter Tryd.func51, Tryd.ntmps51
        go_wp2
        go_quiet (fail)
        go_wp2
        go_ret
        exact ⟨rfl, by repeat (first | (with_reducible first | exact Below.refl _ _ | apply pw_below_drewN | apply below_drew1 | apply below_alloc))⟩
  · by_cases hn : 4 ≤ s.size
    · rw [if_pos hn] at hr; subst hr
      have hg : decide ((4 : Int) ≤ (s.size : Int)) = true := decide_eq_true (by omega)
      clear hx0 hx1 hx2 hn
      go_enter Tryd.func51, Tryd.ntmps51
      go_wp2
      go_ret
      exact ⟨rfl, Below.refl _ _⟩
    · rw [if_neg hn] at hr
      have hg : decide ((4 : Int) ≤ (s.size : Int)) = false := decide_eq_false (by omega)
      rcases (show s.size = 1 ∨ s.size = 2 ∨ s.size = 3 by omega) with hsz | hsz | hsz
      · have hi1 : decide ((s.size : Int) > 1) = false := decide_eq_false (by omega)
        have hi2 : decide ((s.size : Int) > 2) = false := decide_eq_false (by omega)
        rw [hsz] at hr
        clear hx0 hx1 hx2 hn hsz
        simp only [show ¬ (1 < 1) by omega, show ¬ (2 < 1) by omega, false_and, if_false] at hr
        subst hr
        go_enter Tryd.func51, Tryd.ntmps51
        go_wp2
        go_quiet (fail)
        go_wp2
        go_ret
        exact ⟨rfl, by repeat (first | (with_reducible first | exact Below.refl _ _ | apply pw_below_drewN | apply below_drew1 | apply below_alloc))⟩
      · have hi1 : decide ((s.size : Int) > 1) = true := decide_eq_true (by omega)
        have hi2 : decide ((s.size : Int) > 2) = false := decide_eq_false (by omega)
        have ht1 : 1 < s.size := by omega
        have hs1 := str_at s 1 ht1
        rw [hx1] at hs1
        have hz1 : (1 : Int) < (s.size : Int) := by omega
        rw [hsz] at hr
        clear hx0 hx1 hx2 hn hsz
        by_cases q1 : x1.toNat < lo
        · have d1 : decide (x1.toNat < lo) = true := decide_eq_true (by omega)
          rw [if_pos (show 1 < 2 ∧ (x1.toNat < lo ∨ hi < x1.toNat) from ⟨by omega, Or.inl q1⟩)] at hr
          subst hr
          clear q1
          go_enter Tryd.func51, Tryd.ntmps51
          go_wp2
          go_quiet (fail)
          go_wp2
          go_ret
          exact ⟨rfl, by repeat (first | (with_reducible first | exact Below.refl _ _ | apply pw_below_drewN | apply below_drew1 | apply below_alloc))⟩
        have d1 : decide (x1.toNat < lo) = false := decide_eq_false (by omega)
        by_cases q2 : hi < x1.toNat
        · have d2 : decide (hi < x1.toNat) = true := decide_eq_true (by omega)
          rw [if_pos (show 1 < 2 ∧ (x1.toNat < lo ∨ hi < x1.toNat) from ⟨by omega, Or.inr q2⟩)] at hr
          subst hr
          clear q1 q2
          go_enter Tryd.func51, Tryd.ntmps51
          go_wp2
          go_quiet (fail)
          go_wp2
          go_ret
          exact ⟨rfl, by repeat (first | (with_reducible first | exact Below.refl _ _ | apply pw_below_drewN | apply below_drew1 | apply below_alloc))⟩
        have d2 : decide (hi < x1.toNat) = false := decide_eq_false (by omega)
        rw [if_neg (show ¬ (1 < 2 ∧ (x1.toNat < lo ∨ hi < x1.toNat)) by omega)] at hr
        clear q1 q2
        rw [if_neg (show ¬ (2 < 2 ∧ (x2.toNat < 128 ∨ 191 < x2.toNat)) by omega)] at hr
        subst hr
        go_enter Tryd.func51, Tryd.ntmps51
        go_wp2
        go_quiet (fail)
        go_wp2
        go_ret
        exact ⟨rfl, by repeat (first | (with_reducible first | exact Below.refl _ _ | apply pw_below_drewN | apply below_drew1 | apply below_alloc))⟩
      · have hi1 : decide ((s.size : Int) > 1) = true := decide_eq_true (by omega)
        have hi2 : decide ((s.size : Int) > 2) = true := decide_eq_true (by omega)
        have ht1 : 1 < s.size := by omega
        have hs1 := str_at s 1 ht1
        rw [hx1] at hs1
        have hz1 : (1 : Int) < (s.size : Int) := by omega
        have ht2 : 2 < s.size := by omega
        have hs2 := str_at s 2 ht2
        rw [hx2] at hs2
        have hz2 : (2 : Int) < (s.size : Int) := by omega
        rw [hsz] at hr
        clear hx0 hx1 hx2 hn hsz
        by_cases q1 : x1.toNat < lo
        · have d1 : decide (x1.toNat < lo) = true := decide_eq_true (by omega)
          rw [if_pos (show 1 < 3 ∧ (x1.toNat < lo ∨ hi < x1.toNat) from ⟨by omega, Or.inl q1⟩)] at hr
          subst hr
          clear q1
          go_enter Tryd.func51, Tryd.ntmps51
          go_wp2
          go_quiet (fail)
          go_wp2
          go_ret
          exact ⟨rfl, by repeat (first | (with_reducible first | exact Below.refl _ _ | apply pw_below_drewN | apply below_drew1 | apply below_alloc))⟩
        have d1 : decide (x1.toNat < lo) = false := decide_eq_false (by omega)
        by_cases q2 : hi < x1.toNat
        · have d2 : decide (hi < x1.toNat) = true := decide_eq_true (by omega)
          rw [if_pos (show 1 < 3 ∧ (x1.toNat < lo ∨ hi < x1.toNat) from ⟨by omega, Or.inr q2⟩)] at hr
          subst hr
          clear q1 q2
          go_enter Tryd.func51, Tryd.ntmps51
          go_wp2
          go_quiet (fail)
          go_wp2
          go_ret
          exact ⟨rfl, by repeat (first | (with_reducible first | exact Below.refl _ _ | apply pw_below_drewN | apply below_drew1 | apply below_alloc))⟩
        have d2 : decide (hi < x1.toNat) = false := decide_eq_false (by omega)
        rw [if_neg (show ¬ (1 < 3 ∧ (x1.toNat < lo ∨ hi < x1.toNat)) by omega)] at hr
        clear q1 q2
        by_cases q1 : x2.toNat < 128
        · have e1 : decide ((x2.toNat : Int) < 128) = true := decide_eq_true (by omega)
          rw [if_pos (show 2 < 3 ∧ (x2.toNat < 128 ∨ 191 < x2.toNat) from ⟨by omega, Or.inl q1⟩)] at hr
          subst hr
          clear q1
          go_enter Tryd.func51, Tryd.ntmps51
          go_wp2
          go_quiet (fail)
          go_wp2
          go_ret
          exact ⟨rfl, by repeat (first | (with_reducible first | exact Below.refl _ _ | apply pw_below_drewN | apply below_drew1 | apply below_alloc))⟩
        have e1 : decide ((x2.toNat : Int) < 128) = false := decide_eq_false (by omega)
        by_cases q2 : 191 < x2.toNat
        · have e2 : decide ((191 : Int) < (x2.toNat : Int)) = true := decide_eq_true (by omega)
          rw [if_pos (show 2 < 3 ∧ (x2.toNat < 128 ∨ 191 < x2.toNat) from ⟨by omega, Or.inr q2⟩)] at hr
          subst hr
          clear q1 q2
          go_enter Tryd.func51, Tryd.ntmps51
          go_wp2
          go_quiet (fail)
          go_wp2
          go_ret
          exact ⟨rfl, by repeat (first | (with_reducible first | exact Below.refl _ _ | apply pw_below_drewN | apply below_drew1 | apply below_alloc))⟩
        have e2 : decide ((191 : Int) < (x2.toNat : Int)) = false := decide_eq_false (by omega)
        rw [if_neg (show ¬ (2 < 3 ∧ (x2.toNat < 128 ∨ 191 < x2.toNat)) by omega)] at hr
        subst hr
        clear q1 q2
        go_enter Tryd.func51, Tryd.ntmps51
        go_wp2
        go_quiet (fail)
        go_wp2
        go_ret
        exact ⟨rfl, by repeat (first | (with_reducible first | exact Below.refl _ _ | apply pw_below_drewN | apply below_drew1 | apply below_alloc))⟩
  · by_cases hn : 4 ≤ s.size
    · rw [if_pos hn] at hr; subst hr
      have hg : decide ((4 : Int) ≤ (s.size : Int)) = true := decide_eq_true (by omega)
      clear hx0 hx1 hx2 hn
      go_enter Tryd.func51, Tryd.ntmps51
      go_wp2
      go_ret
      exact ⟨rfl, Below.refl _ _⟩
    · rw [if_neg hn] at hr
      have hg : decide ((4 : Int) ≤ (s.size : Int)) = false := decide_eq_false (by omega)
      rcases (show s.size = 1 ∨ s.size = 2 ∨ s.size = 3 by omega) with hsz | hsz | hsz
      · have hi1 : decide ((s.size : Int) > 1) = false := decide_eq_false (by omega)
        have hi2 : decide ((s.size : Int) > 2) = false := decide_eq_false (by omega)
        rw [hsz] at hr
        clear hx0 hx1 hx2 hn hsz
        simp only [show ¬ (1 < 1) by omega, show ¬ (2 < 1) by omega, false_and, if_false] at hr
        subst hr
        go_enter Tryd.func51, Tryd.ntmps51
        go_wp2
        go_quiet (fail)
        go_wp2
        go_ret
        exact ⟨rfl, by repeat (first | (with_reducible first | exact Below.refl _ _ | apply pw_below_drewN | apply below_drew1 | apply below_alloc))⟩
      · have hi1 : decide ((s.size : Int) > 1) = true := decide_eq_true (by omega)
        have hi2 : decide ((s.size : Int) > 2) = false := decide_eq_false (by omega)
        have ht1 : 1 < s.size := by omega
        have hs1 := str_at s 1 ht1
        rw [hx1] at hs1
        have hz1 : (1 : Int) < (s.size : Int) := by omega
        rw [hsz] at hr
        clear hx0 hx1 hx2 hn hsz
        by_cases q1 : x1.toNat < lo
        · have d1 : decide (x1.toNat < lo) = true := decide_eq_true (by omega)
          rw [if_pos (show 1 < 2 ∧ (x1.toNat < lo ∨ hi < x1.toNat) from ⟨by omega, Or.inl q1⟩)] at hr
          subst hr
          clear q1
          go_enter Tryd.func51, Tryd.ntmps51
          go_wp2
          go_quiet (fail)
          go_wp2
          go_ret
          exact ⟨rfl, by repeat (first | (with_reducible first | exact Below.refl _ _ | apply pw_below_drewN | apply below_drew1 | apply below_alloc))⟩
        have d1 : decide (x1.toNat < lo) = false := decide_eq_false (by omega)
        by_cases q2 : hi < x1.toNat
        · have d2 : decide (hi < x1.toNat) = true := decide_eq_true (by omega)
          rw [if_pos (show 1 < 2 ∧ (x1.toNat < lo ∨ hi < x1.toNat) from ⟨by omega, Or.inr q2⟩)] at hr
          subst hr
          clear q1 q2
          go_enter Tryd.func51, Tryd.ntmps51
          go_wp2
          go_quiet (fail)
          go_wp2
          go_ret
          exact ⟨rfl, by repeat (first | (with_reducible first | exact Below.refl _ _ | apply pw_below_drewN | apply below_drew1 | apply below_alloc))⟩
        have d2 : decide (hi < x1.toNat) = false := decide_eq_false (by omega)
        rw [if_neg (show ¬ (1 < 2 ∧ (x1.toNat < lo ∨ hi < x1.toNat)) by omega)] at hr
        clear q1 q2
        rw [if_neg (show ¬ (2 < 2 ∧ (x2.toNat < 128 ∨ 191 < x2.toNat)) by omega)] at hr
        subst hr
        go_enter Tryd.func51, Tryd.ntmps51
        go_wp2
        go_quiet (fail)
        go_wp2
        go_ret
        exact ⟨rfl, by repeat (first | (with_reducible first | exact Below.refl _ _ | apply pw_below_drewN | apply below_drew1 | apply below_alloc))⟩
      · have hi1 : decide ((s.size : Int) > 1) = true := decide_eq_true (by omega)
        have hi2 : decide ((s.size : Int) > 2) = true := decide_eq_true (by omega)
        have ht1 : 1 < s.size := by omega
        have hs1 := str_at s 1 ht1
        rw [hx1] at hs1
        have hz1 : (1 : Int) < (s.size : Int) := by omega
        have ht2 : 2 < s.size := by omega
        have hs2 := str_at s 2 ht2
        rw [hx2] at hs2
        have hz2 : (2 : Int) < (s.size : Int) := by omega
        rw [hsz] at hr
        clear hx0 hx1 hx2 hn hsz
        by_cases q1 : x1.toNat < lo
        · have d1 : decide (x1.toNat < lo) = true := decide_eq_true (by omega)
          rw [if_pos (show 1 < 3 ∧ (x1.toNat < lo ∨ hi < x1.toNat) from ⟨by omega, Or.inl q1⟩)] at hr
          subst hr
          clear q1
          go_enter Tryd.func51, Tryd.ntmps51
          go_wp2
          go_quiet (fail)
          go_wp2
          go_ret
          exact ⟨rfl, by repeat (first | (with_reducible first | exact Below.refl _ _ | apply pw_below_drewN | apply below_drew1 | apply below_alloc))⟩
        have d1 : decide (x1.toNat < lo) = false := decide_eq_false (by omega)
        by_cases q2 : hi < x1.toNat
        · have d2 : decide (hi < x1.toNat) = true := decide_eq_true (by omega)
          rw [if_pos (show 1 < 3 ∧ (x1.toNat < lo ∨ hi < x1.toNat) from ⟨by omega, Or.inr q2⟩)] at hr
          subst hr
          clear q1 q2
          go_enter Tryd.func51, Tryd.ntmps51
          go_wp2
          go_quiet (fail)
          go_wp2
          go_ret
          exact ⟨rfl, by repeat (first | (with_reducible first | exact Below.refl _ _ | apply pw_below_drewN | apply below_drew1 | apply below_alloc))⟩
        have d2 : decide (hi < x1.toNat) = false := decide_eq_false (by omega)
        rw [if_neg (show ¬ (1 < 3 ∧ (x1.toNat < lo ∨ hi < x1.toNat)) by omega)] at hr
        clear q1 q2
        by_cases q1 : x2.toNat < 128
        · have e1 : decide ((x2.toNat : Int) < 128) = true := decide_eq_true (by omega)
          rw [if_pos (show 2 < 3 ∧ (x2.toNat < 128 ∨ 191 < x2.toNat) from ⟨by omega, Or.inl q1⟩)] at hr
          subst hr
          clear q1
          go_enter Tryd.func51, Tryd.ntmps51
          go_wp2
          go_quiet (fail)
          go_wp2
          go_ret
          exact ⟨rfl, by repeat (first | (with_reducible first | exact Below.refl _ _ | apply pw_below_drewN | apply below_drew1 | apply below_alloc))⟩
        have e1 : decide ((x2.toNat : Int) < 128) = false := decide_eq_false (by omega)
        by_cases q2 : 191 < x2.toNat
        · have e2 : decide ((191 : Int) < (x2.toNat : Int)) = true := decide_eq_true (by omega)
          rw [if_pos (show 2 < 3 ∧ (x2.toNat < 128 ∨ 191 < x2.toNat) from ⟨by omega, Or.inr q2⟩)] at hr
          subst hr
          clear q1 q2
          go_enter Tryd.func51, Tryd.ntmps51
          go_wp2
          go_quiet (fail)
          go_wp2
          go_ret
          exact ⟨rfl, by repeat (first | (with_reducible first | exact Below.refl _ _ | apply pw_below_drewN | apply below_drew1 | apply below_alloc))⟩
        have e2 : decide ((191 : Int) < (x2.toNat : Int)) = false := decide_eq_false (by omega)
        rw [if_neg (show ¬ (2 < 3 ∧ (x2.toNat < 128 ∨ 191 < x2.toNat)) by omega)] at hr
        subst hr
        clear q1 q2
        go_enter Tryd.func51, Tryd.ntmps51
        go_wp2
        go_quiet (fail)
        go_wp2
        go_ret
        exact ⟨rfl, by repeat (first | (with_reducible first | exact Below.refl _ _ | apply pw_below_drewN | apply below_drew1 | apply below_alloc))⟩
theorem utf8_FullRuneInString.calls (a0 : ByteArray) (r : Bool) (w : World) (h : utf8_FullRuneInString.f a0 = some r) (hT_ : Tabs w) :
    Calls Tryd.prog 51 #[.string a0] w fun e w' => e = .returned (.bool r) ∧ Below w.heap.size w w' := by
  obtain rfl := Option.some.inj h
  clear h
  by_cases hz : 0 < a0.size
  · have hx := Lib.firstT_cases (a0.get! 0).toNat
    have hi : Lib.firstT (a0.get! 0).toNat / 16 < 16 := by rcases hx with h | h | h | h | h | h | h | h | h <;> rw [h] <;> decide
    have hl : ∀ i, Lib.accLo i < 256 := fun i => by unfold Lib.accLo; repeat' (first | omega | split)
    have hh : ∀ i, Lib.accHi i < 256 := fun i => by unfold Lib.accHi; repeat' (first | omega | split)
    exact full_gen a0 w _ _ _ _ hz (by rcases hx with h | h | h | h | h | h | h | h | h <;> rw [h] <;> decide) (hT_.1 _ (UInt8.toNat_lt _)) rfl (hT_.2 _ hi).1 (hT_.2 _ hi).2 rfl rfl (hl _) (hh _)
  · have he : a0.size = 0 := by omega
    have hv : fullV a0.size (Lib.firstT (a0.get! 0).toNat) (a0.get! 1).toNat (a0.get! 2).toNat = false := by unfold fullV; rw [if_pos he]
    rw [hv]
    have hz' : ((a0.size : Int) == 0) = true := by rw [he]; rfl
    clear hv he hz
    go_enter Tryd.func51, Tryd.ntmps51
    go_wp2
    go_ret
    exact ⟨rfl, Below.refl _ _⟩

end Go.Proofs.YtbofmfilnjcihaaDoor.HFnExactFlushDecoder
