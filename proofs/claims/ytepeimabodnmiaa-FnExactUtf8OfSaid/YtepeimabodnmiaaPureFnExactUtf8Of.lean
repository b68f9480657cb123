/-
  For every input the law FnExactUtf8Of returns true; no condition.
-/
import Derived.Test.YtepeimabodnmiaaHFnExactUtf8Ofx1
namespace Go.Proofs.Ytepeimabodnmiaa.Pure
open Go.RowKit Go.Proofs.Ytepeimabodnmiaa.HFnExactUtf8Of Go.Proofs.YtepeimabodnmiaaW.PrintWords Go.Proofs.YtepeimabodnmiaaW.PrintLast
set_option linter.unusedSimpArgs false
set_option linter.unusedVariables false
theorem wr (i : Int) (h0 : -9223372036854775808 ≤ i) (h1 : i ≤ 9223372036854775807) : wrap64 i = i := by unfold wrap64; omega

theorem rd_nat (l : List Int) (j : Nat) : rd l (j : Int) = l.getD j 0 := by unfold rd; simp

theorem getD_at (l : List Int) (j : Nat) (h : j < l.length) : l.getD j 0 = l[j] := by simp [List.getD_eq_getElem?_getD, h]

theorem rd_at (l : List Int) (j : Nat) (h : j < l.length) : rd l (j : Int) = l[j] := by rw [rd_nat, getD_at l j h]

theorem drop_at (l : List Int) (j : Nat) (h : j < l.length) : l.drop j = l[j] :: l.drop (j + 1) := List.drop_eq_getElem_cons h

/-- Within bounds. -/
def inB (lo hi n : Int) : Bool := decide (lo ≤ n ∧ n ≤ hi)
theorem inB_iff (lo hi n : Int) : inB lo hi n = true ↔ lo ≤ n ∧ n ≤ hi := by simp [inB]

theorem in_s (a b c : Int) : spec_l1In.f a b c = some (inB b c a) := by
  unfold spec_l1In.f inB
  by_cases h : a ≥ b
  · rw [if_pos h]; simp [show b ≤ a from h]
  · rw [if_neg h]; simp [show ¬ b ≤ a from h]

theorem in_i (a b c : Int) : impl_inRange.f a b c = some (inB b c a) := by
  unfold impl_inRange.f inB
  by_cases h : b ≤ a
  · rw [if_pos h]; simp [h]
  · rw [if_neg h]; simp [h]

def isR (a : Int) : Bool := inB 0 1114111 a && !inB 55296 57343 a
theorem gr_s (a : Int) : spec_GoodRune.f a = some (isR a) := by
  unfold spec_GoodRune.f isR
  rw [in_s, in_s]
  simp only [Option.bind_some]
  cases inB 0 1114111 a <;> simp

theorem gr_i (a : Int) : impl_GoodRune.f a = some (isR a) := by
  unfold impl_GoodRune.f isR
  rw [in_i, in_i]
  simp only [Option.bind_some]
  cases inB 0 1114111 a <;> simp

/-- The bytes of a rune. -/
def u8V (r : Int) : List Int :=
  if r < 128 then [r] else if r < 2048 then [192 + r / 64, 128 + r % 64] else if r < 65536 then [224 + r / 4096, 128 + r / 64 % 64, 128 + r % 64]
  else [240 + r / 262144, 128 + r / 4096 % 64, 128 + r / 64 % 64, 128 + r % 64]

theorem isR_range (r : Int) (h : isR r = true) : 0 ≤ r ∧ r ≤ 1114111 ∧ ¬ (55296 ≤ r ∧ r ≤ 57343) := by
  unfold isR at h
  rw [Bool.and_eq_true, inB_iff, Bool.not_eq_true', Bool.eq_false_iff, Ne, inB_iff] at h
  exact ⟨h.1.1, h.1.2, h.2⟩

theorem u8_s (r : Int) (h : isR r = true) : spec_l1Utf8.f r = some (strOfNums (u8V r)) := by
  obtain ⟨h0, h1, _⟩ := isR_range r h
  unfold spec_l1Utf8.f u8V
  by_cases c1 : r < 128
  · rw [if_pos c1, if_pos c1, Int.emod_eq_of_lt h0 (by omega)]
  · rw [if_neg c1, if_neg c1]
    by_cases c2 : r < 2048
    · rw [if_pos c2, if_pos c2, Int.tdiv_eq_ediv_of_nonneg h0, Int.tmod_eq_emod_of_nonneg h0, wr (r / 64) (by omega) (by omega), wr (192 + r / 64) (by omega) (by omega), wr (128 + r % 64) (by omega) (by omega), Int.emod_eq_of_lt (a := 192 + r / 64) (by omega) (by omega), Int.emod_eq_of_lt (a := 128 + r % 64) (by omega) (by omega)]
    · rw [if_neg c2, if_neg c2]
      by_cases c3 : r < 65536
      · rw [if_pos c3, if_pos c3, Int.tdiv_eq_ediv_of_nonneg h0, Int.tdiv_eq_ediv_of_nonneg h0, Int.tmod_eq_emod_of_nonneg h0, wr (r / 64) (by omega) (by omega), wr (r / 4096) (by omega) (by omega), Int.tmod_eq_emod_of_nonneg (a := r / 64) (by omega), wr (224 + r / 4096) (by omega) (by omega), wr (128 + r % 64) (by omega) (by omega), wr (128 + r / 64 % 64) (by omega) (by omega), Int.emod_eq_of_lt (a := 224 + r / 4096) (by omega) (by omega), Int.emod_eq_of_lt (a := 128 + r % 64) (by omega) (by omega), Int.emod_eq_of_lt (a := 128 + r / 64 % 64) (by omega) (by omega)]
      · rw [if_neg c3, if_neg c3, Int.tdiv_eq_ediv_of_nonneg h0, Int.tdiv_eq_ediv_of_nonneg h0, Int.tdiv_eq_ediv_of_nonneg h0, Int.tmod_eq_emod_of_nonneg h0, wr (r / 64) (by omega) (by omega), wr (r / 4096) (by omega) (by omega), wr (r / 262144) (by omega) (by omega), Int.tmod_eq_emod_of_nonneg (a := r / 64) (by omega), Int.tmod_eq_emod_of_nonneg (a := r / 4096) (by omega), wr (240 + r / 262144) (by omega) (by omega), wr (128 + r % 64) (by omega) (by omega), wr (128 + r / 64 % 64) (by omega) (by omega), wr (128 + r / 4096 % 64) (by omega) (by omega), Int.emod_eq_of_lt (a := 240 + r / 262144) (by omega) (by omega), Int.emod_eq_of_lt (a := 128 + r % 64) (by omega) (by omega), Int.emod_eq_of_lt (a := 128 + r / 64 % 64) (by omega) (by omega), Int.emod_eq_of_lt (a := 128 + r / 4096 % 64) (by omega) (by omega)]

theorem u8_enc (r : Int) (h : isR r = true) : Utf8.encode r = strOfNums (u8V r) := by
  obtain ⟨h0, h1, h2⟩ := isR_range r h
  obtain ⟨n, rfl⟩ := Int.eq_ofNat_of_zero_le h0
  have hv : Utf8.valid (n : Int) = true := by
    unfold Utf8.valid
    simp only [Bool.or_eq_true, Bool.and_eq_true, decide_eq_true_eq]
    omega
  unfold Utf8.encode u8V
  simp only [hv, if_true, Int.toNat_natCast]
  by_cases c1 : n < 128
  · rw [if_pos c1, if_pos (show (n : Int) < 128 by omega)]
    simp [strOfNums]
  · rw [if_neg c1, if_neg (show ¬ (n : Int) < 128 by omega)]
    by_cases c2 : n < 2048
    · rw [if_pos c2, if_pos (show (n : Int) < 2048 by omega)]
      have e1 : (192 + (n : Int) / 64).toNat = 192 + n / 64 := by omega
      have e2 : (128 + (n : Int) % 64).toNat = 128 + n % 64 := by omega
      simp only [strOfNums, List.map_cons, List.map_nil, e1, e2]
    · rw [if_neg c2, if_neg (show ¬ (n : Int) < 2048 by omega)]
      by_cases c3 : n < 65536
      · rw [if_pos c3, if_pos (show (n : Int) < 65536 by omega)]
        have e1 : (224 + (n : Int) / 4096).toNat = 224 + n / 4096 := by omega
        have e2 : (128 + (n : Int) / 64 % 64).toNat = 128 + n / 64 % 64 := by omega
        have e3 : (128 + (n : Int) % 64).toNat = 128 + n % 64 := by omega
        simp only [strOfNums, List.map_cons, List.map_nil, e1, e2, e3]
      · rw [if_neg c3, if_neg (show ¬ (n : Int) < 65536 by omega)]
        have e1 : (240 + (n : Int) / 262144).toNat = 240 + n / 262144 := by omega
        have e2 : (128 + (n : Int) / 4096 % 64).toNat = 128 + n / 4096 % 64 := by omega
        have e3 : (128 + (n : Int) / 64 % 64).toNat = 128 + n / 64 % 64 := by omega
        have e4 : (128 + (n : Int) % 64).toNat = 128 + n % 64 := by omega
        simp only [strOfNums, List.map_cons, List.map_nil, e1, e2, e3, e4]

theorem u8_i (r : Int) (h : isR r = true) : impl_utf8Of.f r = some (strOfNums (u8V r)) := by
  obtain ⟨h0, h1, h2⟩ := isR_range r h
  unfold impl_utf8Of.f
  rw [show wrap32 r = r from by unfold wrap32; omega, u8_enc r h]

theorem FnExactUtf8Of : laws_FnExactUtf8Of.Pure := by
  intro a _
  have e : spec_Utf8Of.f a = impl_Utf8Of.f a := by
    unfold spec_Utf8Of.f impl_Utf8Of.f
    rw [gr_s, gr_i]
    simp only [Option.bind_some]
    cases h : isR a with
    | true => rw [if_pos rfl, if_pos rfl, u8_s a h, u8_i a h]
    | false => rfl
  unfold laws_FnExactUtf8Of.f
  rw [e]
  have : ∃ x, impl_Utf8Of.f a = some x := by
    unfold impl_Utf8Of.f
    rw [gr_i]
    simp only [Option.bind_some]
    cases h : isR a with
    | true => rw [if_pos rfl, u8_i a h]; exact ⟨_, rfl⟩
    | false => exact ⟨_, rfl⟩
  obtain ⟨x, hx⟩ := this
  rw [hx]
  simp

end Go.Proofs.Ytepeimabodnmiaa.Pure
