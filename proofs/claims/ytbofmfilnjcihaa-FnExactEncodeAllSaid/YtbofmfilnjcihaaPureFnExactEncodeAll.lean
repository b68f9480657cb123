/-
  For every input the law FnExactEncodeAll returns true; no condition.
-/
import Derived.Test.YtbofmfilnjcihaaHFnExactEncodeAllx8
import Derived.Laws.BitsLemmas
namespace Go.Proofs.Ytbofmfilnjcihaa.Pure
open Go.RowKit Go.Proofs.Ytbofmfilnjcihaa.HFnExactEncodeAll Go.Proofs.YtbofmfilnjcihaaW.PrintWords Go.Proofs.YtbofmfilnjcihaaW.PrintLast
set_option linter.unusedSimpArgs false
set_option linter.unusedVariables false
theorem wr (i : Int) (h0 : -9223372036854775808 ≤ i) (h1 : i ≤ 9223372036854775807) : wrap64 i = i := by unfold wrap64; omega

theorem rd_nat (l : List Int) (j : Nat) : rd l (j : Int) = l.getD j 0 := by unfold rd; simp

theorem getD_at (l : List Int) (j : Nat) (h : j < l.length) : l.getD j 0 = l[j] := by simp [List.getD_eq_getElem?_getD, h]

theorem rd_at (l : List Int) (j : Nat) (h : j < l.length) : rd l (j : Int) = l[j] := by rw [rd_nat, getD_at l j h]

theorem drop_at (l : List Int) (j : Nat) (h : j < l.length) : l.drop j = l[j] :: l.drop (j + 1) := List.drop_eq_getElem_cons h

theorem toIntS_l (l : List Int) (hl : l.length ≤ 17592186044416) : ∀ (d j : Nat) (o : List Int), j + d = l.length → o.length = l.length → (∀ i, i < j → o.getD i 0 = l.getD i 0) → Ev (fun k => laws_toIntS.l0 k l o (j : Int)) l := by
  intro d
  induction d with
  | zero =>
    intro j o hj ho he
    refine Ev.step (f := fun _ => some l) (fun k => ?_) (Ev.now l)
    simp only [laws_toIntS.l0]
    rw [if_neg (by omega)]
    congr 1
    refine List.ext_getElem (by omega) fun i h1 h2 => ?_
    have := he i (by omega)
    rwa [getD_at o i h1, getD_at l i h2] at this
  | succ d ih =>
    intro j o hj ho he
    refine Ev.step (f := fun k => laws_toIntS.l0 k l (o.set j (l.getD j 0)) ((j + 1 : Nat) : Int)) (fun k => ?_) (ih (j + 1) _ (by omega) (by rw [List.length_set]; exact ho) fun i hi => ?_)
    · simp only [laws_toIntS.l0]
      rw [if_pos (by omega), if_pos (by omega), if_pos (by omega), wr _ (by omega) (by omega), rd_nat]
      simp
    · by_cases e : i = j
      · subst e
        rw [getD_at _ _ (by rw [List.length_set]; omega)]
        simp
      · rw [← he i (by omega)]
        simp [List.getD_eq_getElem?_getD, List.getElem?_set, Ne.symm e]

theorem toIntS_ev (l : List Int) (hl : l.length ≤ 17592186044416) : Ev (fun k => laws_toIntS.f k l) l := by
  refine Ev.congr (f := fun k => laws_toIntS.l0 k l (List.replicate l.length 0) ((0 : Nat) : Int)) (fun k => ?_) (toIntS_l l hl l.length 0 _ (by omega) (by simp) (fun i hi => by omega))
  unfold laws_toIntS.f
  rw [if_pos (by omega), if_pos (by omega)]
  simp

theorem eqIntS_l (a b : List Int) (hab : a.length = b.length) (hl : a.length ≤ 17592186044416) : ∀ (d j : Nat), j + d = a.length → a.take j = b.take j → Ev (fun k => laws_eqIntS.l0 k a b (j : Int)) (decide (a = b)) := by
  intro d
  induction d with
  | zero =>
    intro j hj ht
    refine Ev.step (f := fun _ => some (decide (a = b))) (fun k => ?_) (Ev.now _)
    simp only [laws_eqIntS.l0]
    rw [if_neg (by omega)]
    rw [List.take_of_length_le (by omega), List.take_of_length_le (by omega)] at ht
    simp [ht]
  | succ d ih =>
    intro j hj ht
    by_cases e : a[j]'(by omega) = b[j]'(by omega)
    · refine Ev.step (f := fun k => laws_eqIntS.l0 k a b ((j + 1 : Nat) : Int)) (fun k => ?_) (ih (j + 1) (by omega) ?_)
      · simp only [laws_eqIntS.l0]
        rw [if_pos (by omega), if_pos (by omega), if_pos (by omega), rd_at a j (by omega), rd_at b j (by omega), if_pos e, wr _ (by omega) (by omega)]
        simp
      · rw [List.take_succ_eq_append_getElem (by omega), List.take_succ_eq_append_getElem (by omega), ht, e]
    · refine Ev.step (f := fun _ => some (decide (a = b))) (fun k => ?_) (Ev.now _)
      simp only [laws_eqIntS.l0]
      rw [if_pos (by omega), if_pos (by omega), if_pos (by omega), rd_at a j (by omega), rd_at b j (by omega), if_neg e]
      have : ¬ a = b := fun h => e (by subst h; rfl)
      simp [this]

theorem eqIntS_ev (a b : List Int) (hl : a.length ≤ 17592186044416) : Ev (fun k => laws_eqIntS.f k a b) (decide (a = b)) := by
  by_cases h : a.length = b.length
  · refine Ev.congr (f := fun k => laws_eqIntS.l0 k a b ((0 : Nat) : Int)) (fun k => ?_) (eqIntS_l a b h hl a.length 0 (by omega) (by simp))
    unfold laws_eqIntS.f
    rw [if_pos (by omega)]
    simp
  · refine Ev.congr (f := fun _ => some (decide (a = b))) (fun k => ?_) (Ev.now _)
    unfold laws_eqIntS.f
    rw [if_neg (by omega)]
    have : ¬ a = b := fun e => h (by rw [e])
    simp [this]

/-- Within bounds. -/
def inB (lo hi n : Int) : Bool := decide (lo ≤ n ∧ n ≤ hi)
theorem inB_iff (lo hi n : Int) : inB lo hi n = true ↔ lo ≤ n ∧ n ≤ hi := by simp [inB]

theorem in_s (a b c : Int) : spec_l1In.f a b c = some (inB b c a) := by
  unfold spec_l1In.f inB
  by_cases h : a ≥ b
  · rw [if_pos h]; simp [show b ≤ a from h]
  · rw [if_neg h]; simp [show ¬ b ≤ a from h]

theorem in_i (a b c : Int) : impl_inRange.f a b c = some (inB b c a) := by
  unfold impl_inRange.f inB
  by_cases h : b ≤ a
  · rw [if_pos h]; simp [h]
  · rw [if_neg h]; simp [h]

def isR (a : Int) : Bool := inB 0 1114111 a && !inB 55296 57343 a
theorem gr_s (a : Int) : spec_GoodRune.f a = some (isR a) := by
  unfold spec_GoodRune.f isR
  rw [in_s, in_s]
  simp only [Option.bind_some]
  cases inB 0 1114111 a <;> simp

theorem gr_i (a : Int) : impl_GoodRune.f a = some (isR a) := by
  unfold impl_GoodRune.f isR
  rw [in_i, in_i]
  simp only [Option.bind_some]
  cases inB 0 1114111 a <;> simp

theorem specAllRunes_l (l : List Int) (hl : l.length ≤ 17592186044416) : ∀ (d j : Nat), j + d = l.length → Ev (fun k => spec_l1AllRunes.l0 k l l (l.length : Int) (j : Int)) ((l.drop j).all isR && decide (l.length ≤ 1000)) := by
  intro d
  induction d with
  | zero =>
    intro j hj
    refine Ev.step (f := fun _ => some ((l.drop j).all isR && decide (l.length ≤ 1000))) (fun k => ?_) (Ev.now _)
    simp only [spec_l1AllRunes.l0]
    rw [if_neg (by omega), List.drop_of_length_le (by omega)]
    simp
    omega
  | succ d ih =>
    intro j hj
    rw [drop_at l j (by omega), List.all_cons]
    cases e : isR (l[j]'(by omega)) with
    | true =>
      refine Ev.step (f := fun k => spec_l1AllRunes.l0 k l l (l.length : Int) ((j + 1 : Nat) : Int)) (fun k => ?_) (by simpa using ih (j + 1) (by omega))
      simp only [spec_l1AllRunes.l0]
      rw [if_pos (by omega), if_pos (by omega), if_pos (by omega), rd_at l j (by omega), gr_s, wr _ (by omega) (by omega), e]
      simp
    | false =>
      refine Ev.step (f := fun _ => some false) (fun k => ?_) (by simpa using Ev.now false)
      simp only [spec_l1AllRunes.l0]
      rw [if_pos (by omega), if_pos (by omega), if_pos (by omega), rd_at l j (by omega), gr_s, e]
      simp

theorem specAllRunes_ev (l : List Int) (hl : l.length ≤ 17592186044416) : Ev (fun k => spec_l1AllRunes.f k l) (l.all isR && decide (l.length ≤ 1000)) :=
  Ev.congr (fun k => by unfold spec_l1AllRunes.f; rfl) (by simpa using specAllRunes_l l hl l.length 0 (by omega))

theorem goodRuneV_isR (r : Int) : goodRuneV r = isR r := by
  unfold goodRuneV isR inB
  rfl

theorem areRunesV_eq (l : List Int) (m : Int) : areRunesV l m = (l.all isR && decide ((l.length : Int) ≤ m)) := by
  unfold areRunesV
  have e : (!l.any badRuneV) = l.all isR := by
    rw [List.not_any_eq_all_not]
    congr 1
    funext x
    unfold badRuneV
    rw [Bool.not_not, goodRuneV_isR]
  rw [e]
  by_cases h : (l.length : Int) ≤ m
  · simp [h]
  · simp [h]

/-- The bytes of a rune. -/
def u8V (r : Int) : List Int :=
  if r < 128 then [r] else if r < 2048 then [192 + r / 64, 128 + r % 64] else if r < 65536 then [224 + r / 4096, 128 + r / 64 % 64, 128 + r % 64]
  else [240 + r / 262144, 128 + r / 4096 % 64, 128 + r / 64 % 64, 128 + r % 64]

theorem isR_range (r : Int) (h : isR r = true) : 0 ≤ r ∧ r ≤ 1114111 ∧ ¬ (55296 ≤ r ∧ r ≤ 57343) := by
  unfold isR at h
  rw [Bool.and_eq_true, inB_iff, Bool.not_eq_true', Bool.eq_false_iff, Ne, inB_iff] at h
  exact ⟨h.1.1, h.1.2, h.2⟩

theorem u8_s (r : Int) (h : isR r = true) : spec_l1Utf8.f r = some (strOfNums (u8V r)) := by
  obtain ⟨h0, h1, _⟩ := isR_range r h
  unfold spec_l1Utf8.f u8V
  by_cases c1 : r < 128
  · rw [if_pos c1, if_pos c1, Int.emod_eq_of_lt h0 (by omega)]
  · rw [if_neg c1, if_neg c1]
    by_cases c2 : r < 2048
    · rw [if_pos c2, if_pos c2, Int.tdiv_eq_ediv_of_nonneg h0, Int.tmod_eq_emod_of_nonneg h0, wr (r / 64) (by omega) (by omega), wr (192 + r / 64) (by omega) (by omega), wr (128 + r % 64) (by omega) (by omega), Int.emod_eq_of_lt (a := 192 + r / 64) (by omega) (by omega), Int.emod_eq_of_lt (a := 128 + r % 64) (by omega) (by omega)]
    · rw [if_neg c2, if_neg c2]
      by_cases c3 : r < 65536
      · rw [if_pos c3, if_pos c3, Int.tdiv_eq_ediv_of_nonneg h0, Int.tdiv_eq_ediv_of_nonneg h0, Int.tmod_eq_emod_of_nonneg h0, wr (r / 64) (by omega) (by omega), wr (r / 4096) (by omega) (by omega), Int.tmod_eq_emod_of_nonneg (a := r / 64) (by omega), wr (224 + r / 4096) (by omega) (by omega), wr (128 + r % 64) (by omega) (by omega), wr (128 + r / 64 % 64) (by omega) (by omega), Int.emod_eq_of_lt (a := 224 + r / 4096) (by omega) (by omega), Int.emod_eq_of_lt (a := 128 + r % 64) (by omega) (by omega), Int.emod_eq_of_lt (a := 128 + r / 64 % 64) (by omega) (by omega)]
      · rw [if_neg c3, if_neg c3, Int.tdiv_eq_ediv_of_nonneg h0, Int.tdiv_eq_ediv_of_nonneg h0, Int.tdiv_eq_ediv_of_nonneg h0, Int.tmod_eq_emod_of_nonneg h0, wr (r / 64) (by omega) (by omega), wr (r / 4096) (by omega) (by omega), wr (r / 262144) (by omega) (by omega), Int.tmod_eq_emod_of_nonneg (a := r / 64) (by omega), Int.tmod_eq_emod_of_nonneg (a := r / 4096) (by omega), wr (240 + r / 262144) (by omega) (by omega), wr (128 + r % 64) (by omega) (by omega), wr (128 + r / 64 % 64) (by omega) (by omega), wr (128 + r / 4096 % 64) (by omega) (by omega), Int.emod_eq_of_lt (a := 240 + r / 262144) (by omega) (by omega), Int.emod_eq_of_lt (a := 128 + r % 64) (by omega) (by omega), Int.emod_eq_of_lt (a := 128 + r / 64 % 64) (by omega) (by omega), Int.emod_eq_of_lt (a := 128 + r / 4096 % 64) (by omega) (by omega)]

theorem u8_enc (r : Int) (h : isR r = true) : Utf8.encode r = strOfNums (u8V r) := by
  obtain ⟨h0, h1, h2⟩ := isR_range r h
  obtain ⟨n, rfl⟩ := Int.eq_ofNat_of_zero_le h0
  have hv : Utf8.valid (n : Int) = true := by
    unfold Utf8.valid
    simp only [Bool.or_eq_true, Bool.and_eq_true, decide_eq_true_eq]
    omega
  unfold Utf8.encode u8V
  simp only [hv, if_true, Int.toNat_natCast]
  by_cases c1 : n < 128
  · rw [if_pos c1, if_pos (show (n : Int) < 128 by omega)]
    simp [strOfNums]
  · rw [if_neg c1, if_neg (show ¬ (n : Int) < 128 by omega)]
    by_cases c2 : n < 2048
    · rw [if_pos c2, if_pos (show (n : Int) < 2048 by omega)]
      have e1 : (192 + (n : Int) / 64).toNat = 192 + n / 64 := by omega
      have e2 : (128 + (n : Int) % 64).toNat = 128 + n % 64 := by omega
      simp only [strOfNums, List.map_cons, List.map_nil, e1, e2]
    · rw [if_neg c2, if_neg (show ¬ (n : Int) < 2048 by omega)]
      by_cases c3 : n < 65536
      · rw [if_pos c3, if_pos (show (n : Int) < 65536 by omega)]
        have e1 : (224 + (n : Int) / 4096).toNat = 224 + n / 4096 := by omega
        have e2 : (128 + (n : Int) / 64 % 64).toNat = 128 + n / 64 % 64 := by omega
        have e3 : (128 + (n : Int) % 64).toNat = 128 + n % 64 := by omega
        simp only [strOfNums, List.map_cons, List.map_nil, e1, e2, e3]
      · rw [if_neg c3, if_neg (show ¬ (n : Int) < 65536 by omega)]
        have e1 : (240 + (n : Int) / 262144).toNat = 240 + n / 262144 := by omega
        have e2 : (128 + (n : Int) / 4096 % 64).toNat = 128 + n / 4096 % 64 := by omega
        have e3 : (128 + (n : Int) / 64 % 64).toNat = 128 + n / 64 % 64 := by omega
        have e4 : (128 + (n : Int) % 64).toNat = 128 + n % 64 := by omega
        simp only [strOfNums, List.map_cons, List.map_nil, e1, e2, e3, e4]

theorem u8_i (r : Int) (h : isR r = true) : impl_utf8Of.f r = some (strOfNums (u8V r)) := by
  obtain ⟨h0, h1, h2⟩ := isR_range r h
  unfold impl_utf8Of.f
  rw [show wrap32 r = r from by unfold wrap32; omega, u8_enc r h]

theorem u8V_bytes (r : Int) (h : isR r = true) : ∀ x ∈ u8V r, 0 ≤ x ∧ x < 256 := by
  obtain ⟨h0, h1, _⟩ := isR_range r h
  intro x hx
  unfold u8V at hx
  split at hx
  · simp only [List.mem_cons, List.not_mem_nil, or_false] at hx; omega
  · split at hx
    · simp only [List.mem_cons, List.not_mem_nil, or_false] at hx; omega
    · split at hx
      · simp only [List.mem_cons, List.not_mem_nil, or_false] at hx; omega
      · simp only [List.mem_cons, List.not_mem_nil, or_false] at hx; omega

theorem u8V_length (r : Int) : (u8V r).length ≤ 4 := by
  unfold u8V
  split
  · simp
  · split
    · simp
    · split <;> simp

theorem size_str (l : List Int) : (strOfNums l).size = l.length := by
  unfold strOfNums
  simp [ByteArray.size]

theorem str_append (a b : List Int) : strOfNums (a ++ b) = strOfNums a ++ strOfNums b := by
  apply ByteArray.ext
  rw [ByteArray.data_append]
  unfold strOfNums
  simp
theorem numsOf_str (l : List Int) (h : ∀ x ∈ l, 0 ≤ x ∧ x < 256) : numsOf (strOfNums l) = l := by
  unfold numsOf strOfNums
  simp only [List.map_map]
  have : ∀ x ∈ l, ((fun b : UInt8 => (b.toNat : Int)) ∘ fun n : Int => UInt8.ofNat n.toNat) x = x := by
    intro x hx
    have := h x hx
    simp only [Function.comp, UInt8.toNat_ofNat']
    omega
  rw [List.map_congr_left this]
  simp
/-- The two bytes of a unit. -/
def pairB (en u : Int) : List Int := if en = 2 then [u / 256, u % 256] else [u % 256, u / 256]
theorem pairB_s (en u : Int) (h0 : 0 ≤ u) (h1 : u < 65536) : spec_l2Pair.f en u = some (strOfNums (pairB en u)) := by
  unfold spec_l2Pair.f pairB
  rw [Int.tdiv_eq_ediv_of_nonneg h0, Int.tmod_eq_emod_of_nonneg h0, wr (u / 256) (by omega) (by omega), Int.emod_eq_of_lt (a := u / 256) (b := 256) (by omega) (by omega), Int.emod_emod]
  split <;> rfl
theorem pairB_i (en u : Int) (h0 : 0 ≤ u) (h1 : u < 65536) : impl_unit.f en u = some (strOfNums (pairB en u)) := by
  unfold impl_unit.f pairB
  rw [Int.emod_eq_of_lt (a := u / 256) (b := 256) (by omega) (by omega)]
  split <;> rfl
theorem pairB_rng (en u : Int) (h0 : 0 ≤ u) (h1 : u < 65536) : ∀ x ∈ pairB en u, 0 ≤ x ∧ x < 256 := by
  intro x hx
  unfold pairB at hx
  split at hx
  · simp only [List.mem_cons, List.not_mem_nil, or_false] at hx; omega
  · simp only [List.mem_cons, List.not_mem_nil, or_false] at hx; omega
theorem pairB_len (en u : Int) : (pairB en u).length = 2 := by
  unfold pairB
  split <;> rfl
/-- The bytes of a rune's units. -/
def unitsB (en r : Int) : List Int := if r < 65536 then pairB en r else pairB en (55296 + (r - 65536) / 1024) ++ pairB en (56320 + (r - 65536) % 1024)
theorem unitsB_rng (en r : Int) (h0 : 0 ≤ r) (h1 : r ≤ 1114111) : ∀ x ∈ unitsB en r, 0 ≤ x ∧ x < 256 := by
  intro x hx
  unfold unitsB at hx
  split at hx
  · exact pairB_rng en r h0 (by omega) x hx
  · rcases List.mem_append.1 hx with g | g
    · exact pairB_rng en _ (by omega) (by omega) x g
    · exact pairB_rng en _ (by omega) (by omega) x g
theorem unitsB_len (en r : Int) : 0 < (unitsB en r).length ∧ (unitsB en r).length ≤ 4 := by
  unfold unitsB
  split
  · rw [pairB_len]; omega
  · rw [List.length_append, pairB_len, pairB_len]; omega
theorem and1023 (x : Int) (h0 : 0 ≤ x) (h1 : x < 1048576) : Go.bits .and .i64 x 1023 = x % 1024 := by
  have := bits_mask .i64 20 (by decide) (fun n g0 g1 => by unfold IntKind.wrap; simp [IntKind.signed, IntKind.bits]; omega) 10 (by decide) x h0 h1
  simpa using this
theorem unitsB_i (en r : Int) (h0 : 0 ≤ r) (h1 : r ≤ 1114111) : impl_units.f en r = some (strOfNums (unitsB en r)) := by
  unfold impl_units.f unitsB
  by_cases c : r < 65536
  · rw [if_pos c, if_pos c, pairB_i en r h0 c]
    rfl
  · rw [if_neg c, if_neg c, wr (r - 65536) (by omega) (by omega), and1023 _ (by omega) (by omega), wr (55296 + (r - 65536) / 1024) (by omega) (by omega), wr (56320 + (r - 65536) % 1024) (by omega) (by omega), pairB_i en _ (by omega) (by omega), pairB_i en _ (by omega) (by omega)]
    simp only [Option.bind_some]
    rw [size_str, size_str, pairB_len, pairB_len, if_pos (by decide), str_append]
/-- Whether a code has a rune. -/
def canW (en r : Int) : Bool := if en = 4 then decide (r ≤ 255) else if en = 5 then (if r < 127 then decide (r ≠ 14 ∧ r ≠ 15) else inB 12352 12446 r) else true
theorem canW_i (en r : Int) : impl_canWrite.f en r = some (canW en r) := by
  unfold impl_canWrite.f canW
  by_cases c4 : en = 4
  · rw [if_pos c4, if_pos c4]
  rw [if_neg c4, if_neg c4]
  by_cases c5 : en = 5
  · rw [if_pos c5, if_pos c5]
    by_cases h : r < 127
    · rw [if_pos h, if_pos h]
      by_cases a : r = 14
      · subst a; decide +kernel
      · rw [if_neg a]
        by_cases b : r = 15
        · subst b; decide +kernel
        · rw [if_neg b, decide_eq_true ⟨a, b⟩]
    · rw [if_neg h, if_neg h, in_i]
      rfl
  · rw [if_neg c5, if_neg c5]
/-- A shift as a number. -/
def shN (on : Bool) : Int := if on = true then 1 else 0
/-- A rune's bytes in a code, and the shift behind it. -/
def putV (en : Int) (on : Bool) (r : Int) : List Int := if en = 1 then u8V r else if en = 2 ∨ en = 3 then unitsB en r else if en = 4 then [r] else if r < 32 then [r] else if r < 127 then turnV on false ++ [r] else turnV on true ++ [r - 12352 + 32]
def nextV (en : Int) (on : Bool) (r : Int) : Bool := if en = 5 then (if r < 32 then on else decide (127 ≤ r)) else false
theorem putV_len (en : Int) (on : Bool) (r : Int) : (putV en on r).length ≤ 8 := by
  unfold putV
  have h1 := u8V_length r
  have h2 := (unitsB_len en r).2
  have h3 := turnV_len on false
  have h4 := turnV_len on true
  split
  · omega
  · split
    · omega
    · split
      · simp
      · split
        · simp
        · split
          · simp only [List.length_append, List.length_cons, List.length_nil]; omega
          · simp only [List.length_append, List.length_cons, List.length_nil]; omega
def tailV (en : Int) : List Int → Bool → List Int
  | [], on => turnV on false
  | r :: t, on => putV en on r ++ tailV en t (nextV en on r)
/-- What spec's writing of one rune tells. -/
def PutOk (en : Int) (on : Bool) (r : Int) (t : ByteArray × Int × Bool) : Prop := t.2.2 = canW en r ∧ (canW en r = true → t.1 = strOfNums (putV en on r) ∧ t.2.1 = shN (nextV en on r))
theorem put_j2 (on tt : Bool) (v : Int) (h0 : 0 ≤ v) (h1 : v < 256) : Ev (fun k => spec_l2Put.j2 k (shN on) (shN tt) v false) (strOfNums (turnV on tt ++ [v]), shN tt, true) := by
  refine Ev.step (f := fun _ => some (strOfNums (turnV on tt ++ [v]), shN tt, true)) (fun k => ?_) (Ev.now _)
  simp only [spec_l2Put.j2]
  rw [if_neg (by simp), Int.emod_eq_of_lt h0 h1]
  simp only [Option.bind_some]
  by_cases e : on = tt
  · subst e
    rw [if_pos rfl]
    simp [turnV]
  · rw [if_neg (by revert e; cases on <;> cases tt <;> simp [shN]), size_str, size_str, if_pos (by simp), str_append]
    congr 4
    unfold turnV
    rw [if_neg e]
    cases tt <;> simp [shN] <;> decide +kernel
theorem put_j1 (on tt : Bool) (x v : Int) (h0 : 32 ≤ v) (h1 : v ≤ 126) (hx : tt = false → x = v) : Ev (fun k => spec_l2Put.j1 k (shN on) x (shN tt) v) (strOfNums (turnV on tt ++ [v]), shN tt, true) := by
  refine Ev.step (f := fun k => spec_l2Put.j2 k (shN on) (shN tt) v false) (fun k => ?_) (put_j2 on tt v (by omega) (by omega))
  simp only [spec_l2Put.j1]
  rw [in_s, (inB_iff _ _ _).2 ⟨h0, h1⟩]
  simp only [Option.bind_some]
  rw [if_pos trivial]
  cases tt with
  | true => rw [if_neg (by simp [shN])]
  | false => rw [if_pos (by simp [shN]), hx rfl, decide_eq_false (by omega)]
theorem put_ev (en : Int) (on : Bool) (r : Int) (he : 1 ≤ en ∧ en ≤ 5) (ho : en ≠ 5 → on = false) (hr : isR r = true) : ∃ t, Ev (fun k => spec_l2Put.f k en (shN on) r) t ∧ PutOk en on r t := by
  obtain ⟨h0, h1, h2⟩ := isR_range r hr
  have ok : ∀ {t : ByteArray × Int × Bool}, canW en r = true → t = (strOfNums (putV en on r), shN (nextV en on r), true) → PutOk en on r t := by
    intro t hc e
    subst e
    exact ⟨hc.symm, fun _ => ⟨rfl, rfl⟩⟩
  have bad : ∀ {t : ByteArray × Int × Bool}, canW en r = false → t.2.2 = false → PutOk en on r t := by
    intro t hc e
    exact ⟨e.trans hc.symm, fun h => absurd (hc.symm.trans h) (by simp)⟩
  unfold spec_l2Put.f
  by_cases e1 : en = 1
  · subst e1
    refine ⟨(strOfNums (u8V r), 0, true), Ev.congr (fun k => by rw [if_pos rfl, u8_s r hr]; rfl) (Ev.now _), ok (by simp [canW]) ?_⟩
    simp [putV, nextV, shN]
  by_cases e23 : en = 2 ∨ en = 3
  · have cw : canW en r = true := by unfold canW; rw [if_neg (by omega), if_neg (by omega)]
    have hu : spec_l2Units.f en = some true := by
      unfold spec_l2Units.f
      rcases e23 with rfl | rfl <;> decide
    have pv : putV en on r = unitsB en r := by unfold putV; rw [if_neg e1, if_pos e23]
    have nv : nextV en on r = false := by unfold nextV; rw [if_neg (by omega)]
    refine ⟨(strOfNums (unitsB en r), 0, true), Ev.congr (f := fun k => spec_l2Put.j0 k en (shN on) r (decide (r < 65536))) (fun k => by rw [if_neg e1, hu]; simp only [Option.bind_some]; rw [if_pos trivial]) ?_, ok cw (by rw [pv, nv]; rfl)⟩
    refine Ev.step (f := fun _ => some (strOfNums (unitsB en r), 0, true)) (fun k => ?_) (Ev.now _)
    simp only [spec_l2Put.j0]
    unfold unitsB
    by_cases c : r < 65536
    · rw [decide_eq_true c, if_pos rfl, if_pos c, pairB_s en r h0 c]
      rfl
    · rw [decide_eq_false c, if_neg (by simp), if_neg c, hu]
      simp only [Option.bind_some]
      rw [if_pos trivial, wr (r - 65536) (by omega) (by omega), Int.tdiv_eq_ediv_of_nonneg (by omega), Int.tmod_eq_emod_of_nonneg (by omega), wr ((r - 65536) / 1024) (by omega) (by omega), wr (55296 + (r - 65536) / 1024) (by omega) (by omega), wr (56320 + (r - 65536) % 1024) (by omega) (by omega), pairB_s en _ (by omega) (by omega), pairB_s en _ (by omega) (by omega)]
      simp only [Option.bind_some]
      rw [size_str, size_str, pairB_len, pairB_len, if_pos (by decide), str_append]
  have hu : spec_l2Units.f en = some false := by
    unfold spec_l2Units.f
    rw [if_neg (by omega)]
    congr 1
    rw [beq_eq_false_iff_ne]
    omega
  have j0 : ∀ t, Ev (fun k => spec_l2Put.j0 k en (shN on) r false) t → Ev (fun k => if en = 1 then ((spec_l1Utf8.f r).bind fun t131 => (some (t131, 0, true))) else ((spec_l2Units.f en).bind fun t132 => (if t132 = true then (spec_l2Put.j0 k en (shN on) r (decide (r < 65536))) else (spec_l2Put.j0 k en (shN on) r false)))) t :=
    fun t h => Ev.congr (fun k => by rw [if_neg e1, hu]; simp only [Option.bind_some]; rw [if_neg (by simp)]) h
  by_cases e4 : en = 4
  · subst e4
    have hcw : canW 4 r = decide (r ≤ 255) := by unfold canW; rw [if_pos rfl]
    refine ⟨(strOfNums [r % 256], 0, decide (r < 256)), j0 _ ?_, ?_⟩
    · refine Ev.step (f := fun _ => some (strOfNums [r % 256], 0, decide (r < 256))) (fun k => ?_) (Ev.now _)
      simp only [spec_l2Put.j0]
      rw [if_neg (by simp), hu]
      simp only [Option.bind_some]
      rw [if_neg (by simp)]
      simp
    · by_cases c : r ≤ 255
      · refine ok (by rw [hcw, decide_eq_true c]) ?_
        rw [decide_eq_true (by omega), Int.emod_eq_of_lt (by omega) (by omega)]
        simp [putV, nextV, shN]
      · exact bad (by rw [hcw, decide_eq_false c]) (decide_eq_false (by omega))
  have e5 : en = 5 := by omega
  subst e5
  have cwl : r < 127 → canW 5 r = decide (r ≠ 14 ∧ r ≠ 15) := fun h => by
    unfold canW
    rw [if_neg (by decide), if_pos rfl, if_pos h]
  have cwh : ¬ r < 127 → canW 5 r = inB 12352 12446 r := fun h => by
    unfold canW
    rw [if_neg (by decide), if_pos rfl, if_neg h]
  have hj : ∀ k, spec_l2Put.j0 (k + 1) 5 (shN on) r false = (if r < 32 then ((some (([(r) % 256] : List Int) : List Int)).bind fun y140 => (if r = 14 then (some (strOfNums y140, shN on, false)) else (some (strOfNums y140, shN on, (r != 15))))) else ((spec_l1In.f r 12352 12446).bind fun t143 => (if t143 = true then (spec_l2Put.j1 k (shN on) r 1 (wrap64 ((wrap64 (r - 12352)) + 32))) else (spec_l2Put.j1 k (shN on) r 0 r)))) := by
    intro k
    simp only [spec_l2Put.j0]
    rw [if_neg (by simp), hu]
    simp only [Option.bind_some]
    rw [if_neg (by simp), if_neg (by decide)]
  by_cases a : r < 32
  · have pv : putV 5 on r = [r] := by unfold putV; rw [if_neg (by decide), if_neg (by decide), if_neg (by decide), if_pos a]
    have nv : nextV 5 on r = on := by unfold nextV; rw [if_pos rfl, if_pos a]
    refine ⟨(strOfNums [r], shN on, decide (r ≠ 14 ∧ r ≠ 15)), j0 _ ?_, ?_⟩
    · refine Ev.step (f := fun _ => some (strOfNums [r], shN on, decide (r ≠ 14 ∧ r ≠ 15))) (fun k => ?_) (Ev.now _)
      rw [hj k, if_pos a, Int.emod_eq_of_lt h0 (by omega)]
      simp only [Option.bind_some]
      by_cases q : r = 14
      · rw [if_pos q, decide_eq_false (by omega)]
      · rw [if_neg q]
        congr 3
        rw [Bool.eq_iff_iff, bne_iff_ne, decide_eq_true_eq]
        omega
    · by_cases q : r ≠ 14 ∧ r ≠ 15
      · refine ok (by rw [cwl (by omega), decide_eq_true q]) ?_
        rw [pv, nv, decide_eq_true q]
      · exact bad (by rw [cwl (by omega), decide_eq_false q]) (decide_eq_false q)
  · by_cases b : r < 127
    · have pv : putV 5 on r = turnV on false ++ [r] := by unfold putV; rw [if_neg (by decide), if_neg (by decide), if_neg (by decide), if_neg a, if_pos b]
      have nv : nextV 5 on r = false := by unfold nextV; rw [if_pos rfl, if_neg a, decide_eq_false (by omega)]
      refine ⟨_, j0 _ (Ev.step (f := fun k => spec_l2Put.j1 k (shN on) r (shN false) r) (fun k => ?_) (put_j1 on false r r (by omega) (by omega) (fun _ => rfl))), ok (by rw [cwl b, decide_eq_true (by omega)]) (by rw [pv, nv])⟩
      rw [hj k, if_neg a, in_s, show inB 12352 12446 r = false from by rw [Bool.eq_false_iff, Ne, inB_iff]; omega]
      simp only [Option.bind_some]
      rw [if_neg (by simp)]
      rfl
    · by_cases g : inB 12352 12446 r = true
      · have gb := (inB_iff _ _ _).1 g
        have pv : putV 5 on r = turnV on true ++ [r - 12352 + 32] := by unfold putV; rw [if_neg (by decide), if_neg (by decide), if_neg (by decide), if_neg a, if_neg b]
        have nv : nextV 5 on r = true := by unfold nextV; rw [if_pos rfl, if_neg a, decide_eq_true (by omega)]
        refine ⟨_, j0 _ (Ev.step (f := fun k => spec_l2Put.j1 k (shN on) r (shN true) (r - 12352 + 32)) (fun k => ?_) (put_j1 on true r _ (by omega) (by omega) (fun h => by cases h))), ok (by rw [cwh b, g]) (by rw [pv, nv])⟩
        rw [hj k, if_neg a, in_s, g]
        simp only [Option.bind_some]
        rw [if_pos trivial, wr (r - 12352) (by omega) (by omega), wr (r - 12352 + 32) (by omega) (by omega)]
        rfl
      · have g' : inB 12352 12446 r = false := by simpa using g
        refine ⟨((⟨#[]⟩ : ByteArray), 0, false), j0 _ (Ev.step (f := fun k => spec_l2Put.j1 k (shN on) r 0 r) (fun k => ?_) (Ev.step (f := fun k => spec_l2Put.j2 k (shN on) 0 r true) (fun k => ?_) (Ev.step (f := fun _ => some ((⟨#[]⟩ : ByteArray), 0, false)) (fun k => ?_) (Ev.now _)))), bad (by rw [cwh b, g']) rfl⟩
        · rw [hj k, if_neg a, in_s, g']
          simp only [Option.bind_some]
          rw [if_neg (by simp)]
        · simp only [spec_l2Put.j1]
          rw [in_s]
          simp only [Option.bind_some]
          by_cases q : inB 32 126 r = true
          · rw [if_pos q, if_pos trivial, decide_eq_true (by omega)]
          · rw [if_neg q]
        · simp only [spec_l2Put.j2]
          rw [if_pos trivial]
theorem fin_step (x : ByteArray) : (if (x.size : Int) > 1000 then some ((⟨#[]⟩ : ByteArray), (0 : Int), false) else some (x, -1, true)) = some (if (x.size : Int) > 1000 then ((⟨#[]⟩ : ByteArray), (0 : Int), false) else (x, -1, true)) := by
  split <;> rfl
/-- The answer behind the scan. -/
def finV (n : List Int) : ByteArray × Int × Bool := if ((strOfNums n).size : Int) > 1000 then ((⟨#[]⟩ : ByteArray), 0, false) else (strOfNums n, -1, true)
def endV (en : Int) : List Int → Int → ByteArray × Int × Bool → ByteArray × Int × Bool
  | [], _, x => x
  | r :: t, i, x => if canW en r = true then endV en t (i + 1) x else ((⟨#[]⟩ : ByteArray), i, true)
theorem specEnc_l (en : Int) (he : 1 ≤ en ∧ en ≤ 5) (l : List Int) (hl : l.length ≤ 1000) (hr : ∀ x ∈ l, isR x = true) : ∀ (d j : Nat) (acc : List Int) (on : Bool), (en ≠ 5 → on = false) → j + d = l.length → acc.length ≤ 8 * j → Ev (fun k => spec_EncodeAll.l0 k en (strOfNums acc) (shN on) l (l.length : Int) (j : Int)) (endV en (l.drop j) (j : Int) (finV (acc ++ tailV en (l.drop j) on))) := by
  intro d
  induction d with
  | zero =>
    intro j acc on ho hj ha
    rw [List.drop_of_length_le (by omega)]
    refine Ev.step (f := fun _ => some (finV (acc ++ turnV on false))) (fun k => ?_) (Ev.now _)
    simp only [spec_EncodeAll.l0]
    rw [if_neg (by omega)]
    unfold finV
    cases on with
    | true =>
      rw [if_pos (by simp [shN])]
      simp only [Option.bind_some]
      have e15 : turnV true false = [15] := by simp [turnV]
      rw [size_str, size_str, if_pos (by simp; omega), e15, ← str_append]
      exact fin_step _
    | false =>
      rw [if_neg (by simp [shN])]
      have e0 : turnV false false = [] := by simp [turnV]
      rw [e0, List.append_nil]
      exact fin_step _
  | succ d ih =>
    intro j acc on ho hj ha
    have hg := hr (l[j]'(by omega)) (List.getElem_mem _)
    have h8 := putV_len en on (l[j]'(by omega))
    obtain ⟨t, ht, hk, hv⟩ := put_ev en on (l[j]'(by omega)) he ho hg
    rw [drop_at l j (by omega)]
    refine Ev.step (f := fun k => (spec_l2Put.f k en (shN on) (l[j]'(by omega))).bind fun bt154 => (if bt154.2.2 = true then (if (strOfNums acc).size + bt154.1.size ≤ 9223372036854775807 then (spec_EncodeAll.l0 k en (strOfNums acc ++ bt154.1) bt154.2.1 l (l.length : Int) ((j + 1 : Nat) : Int)) else (none)) else (some ((⟨#[]⟩ : ByteArray), (j : Int), true)))) (fun k => ?_) (Ev.bind ht ?_)
    · simp only [spec_EncodeAll.l0]
      rw [if_pos (by omega), if_pos (by omega), if_pos (by omega), rd_at l j (by omega), wr _ (by omega) (by omega)]
      rfl
    · rw [hk]
      unfold endV tailV
      by_cases c : canW en (l[j]'(by omega)) = true
      · obtain ⟨v1, v2⟩ := hv c
        rw [if_pos c, v1, v2, ← List.append_assoc]
        refine Ev.congr (f := fun k => spec_EncodeAll.l0 k en (strOfNums (acc ++ putV en on (l[j]'(by omega)))) (shN (nextV en on (l[j]'(by omega)))) l (l.length : Int) ((j + 1 : Nat) : Int)) (fun k => ?_) ?_
        · rw [if_pos c, size_str, size_str, if_pos (by omega), str_append]
        · exact ih (j + 1) (acc ++ putV en on (l[j]'(by omega))) (nextV en on (l[j]'(by omega))) (fun h => by unfold nextV; rw [if_neg h]) (by omega) (by rw [List.length_append]; omega)
      · rw [if_neg c]
        exact Ev.congr (fun k => by rw [if_neg c]) (Ev.now _)
theorem piece_i (en r : Int) (he : 1 ≤ en ∧ en ≤ 4) (hr : isR r = true) (hc : canW en r = true) (on : Bool) : pieceO en r = some (putV en on r) := by
  obtain ⟨h0, h1, h2⟩ := isR_range r hr
  unfold pieceO putV
  by_cases e1 : en = 1
  · rw [if_pos e1, if_pos e1, u8_i r hr]
    simp only [Option.bind_some]
    unfold pieceT
    have hl : 0 < (u8V r).length := by
      unfold u8V
      split
      · simp
      · split
        · simp
        · split <;> simp
    rw [size_str, if_pos ⟨hl, by have := u8V_length r; omega⟩, numsOf_str _ (u8V_bytes r hr)]
  · rw [if_neg e1, if_neg e1]
    by_cases e4 : en = 4
    · unfold canW at hc
      rw [if_pos e4, decide_eq_true_eq] at hc
      rw [if_pos e4, if_pos ⟨h0, hc⟩, if_neg (show ¬ (en = 2 ∨ en = 3) by omega), if_pos e4]
    · rw [if_neg e4, if_pos (by omega), unitsB_i en r h0 h1]
      simp only [Option.bind_some]
      unfold pieceT
      have hl := unitsB_len en r
      rw [size_str, if_pos ⟨hl.1, by omega⟩, numsOf_str _ (unitsB_rng en r h0 h1)]
theorem encO_i (en : Int) (he : 1 ≤ en ∧ en ≤ 4) : ∀ (l : List Int), (∀ x ∈ l, isR x = true) → (∀ x ∈ l, canW en x = true) → encO en l = some (tailV en l false)
  | [], _, _ => by simp [encO, tailV, turnV]
  | r :: t, hr, hc => by
    unfold encO tailV
    rw [piece_i en r he (hr r (List.mem_cons_self ..)) (hc r (List.mem_cons_self ..)) false, encO_i en he t (fun x hx => hr x (List.mem_cons_of_mem _ hx)) (fun x hx => hc x (List.mem_cons_of_mem _ hx)), show nextV en false r = false from by unfold nextV; rw [if_neg (by omega)]]
    rfl
theorem shF_i : ∀ (l : List Int) (on : Bool), (∀ x ∈ l, isR x = true) → (∀ x ∈ l, canW 5 x = true) → shF l on = tailV 5 l on
  | [], on, _, _ => by simp [shF, tailV]
  | r :: t, on, hr, hc => by
    obtain ⟨h0, h1, h2⟩ := isR_range r (hr r (List.mem_cons_self ..))
    have hcr := hc r (List.mem_cons_self ..)
    have rc := fun o => shF_i t o (fun x hx => hr x (List.mem_cons_of_mem _ hx)) (fun x hx => hc x (List.mem_cons_of_mem _ hx))
    unfold shF tailV putV nextV
    rw [if_neg (show ¬ (5 : Int) = 1 by decide), if_neg (show ¬ ((5 : Int) = 2 ∨ (5 : Int) = 3) by decide), if_neg (show ¬ (5 : Int) = 4 by decide), if_pos (rfl : (5 : Int) = 5)]
    by_cases a : r < 32
    · rw [if_pos a, if_pos a, if_pos a, Int.emod_eq_of_lt h0 (by omega), rc]
      rfl
    · rw [if_neg a, if_neg a, if_neg a]
      by_cases b : r < 127
      · rw [if_pos b, if_pos b, decide_eq_false (by omega), Int.emod_eq_of_lt h0 (by omega), rc]
        simp
      · have g : 12352 ≤ r ∧ r ≤ 12446 := by
          unfold canW at hcr
          rw [if_neg (by decide), if_pos rfl, if_neg b, inB_iff] at hcr
          exact hcr
        rw [if_neg b, if_neg b, decide_eq_true (by omega), Int.emod_eq_of_lt (by omega) (by omega), rc]
        simp
theorem encode_i (en : Int) (he : 1 ≤ en ∧ en ≤ 5) (l : List Int) (hl : l.length ≤ 1000) (hr : ∀ x ∈ l, isR x = true) (hc : ∀ x ∈ l, canW en x = true) : impl_encode.f en l = some (strOfNums (tailV en l false)) := by
  unfold impl_encode.f
  by_cases e5 : en = 5
  · subst e5
    rw [if_pos rfl]
    unfold impl_shifting.f
    rw [if_pos ⟨by omega, fun r h => by have := isR_range r (hr r h); omega⟩, shF_i l false hr hc]
  · rw [if_neg e5, if_pos (by omega), encO_i en (by omega) l hr hc]
    rfl
theorem implEnc_l (en : Int) (he : 1 ≤ en ∧ en ≤ 5) (l : List Int) (hl : l.length ≤ 1000) (hr : ∀ x ∈ l, isR x = true) : ∀ (d j : Nat), j + d = l.length → (∀ x ∈ l.take j, canW en x = true) → Ev (fun k => impl_EncodeAll.l0 k en l l (l.length : Int) (j : Int)) (endV en (l.drop j) (j : Int) (finV (tailV en l false))) := by
  intro d
  induction d with
  | zero =>
    intro j hj hc
    rw [List.take_of_length_le (by omega)] at hc
    rw [List.drop_of_length_le (by omega)]
    refine Ev.step (f := fun _ => some (finV (tailV en l false))) (fun k => ?_) (Ev.now _)
    simp only [impl_EncodeAll.l0]
    rw [if_neg (by omega), encode_i en he l hl hr hc]
    exact fin_step _
  | succ d ih =>
    intro j hj hc
    rw [drop_at l j (by omega)]
    unfold endV
    by_cases c : canW en (l[j]'(by omega)) = true
    · rw [if_pos c]
      refine Ev.step (f := fun k => impl_EncodeAll.l0 k en l l (l.length : Int) ((j + 1 : Nat) : Int)) (fun k => ?_) (ih (j + 1) (by omega) ?_)
      · simp only [impl_EncodeAll.l0]
        rw [if_pos (by omega), if_pos (by omega), if_pos (by omega), rd_at l j (by omega), wr _ (by omega) (by omega), canW_i]
        simp only [Option.bind_some]
        rw [if_pos c]
        rfl
      · intro x hx
        rw [List.take_succ_eq_append_getElem (by omega)] at hx
        rcases List.mem_append.1 hx with g | g
        · exact hc x g
        · rw [List.mem_singleton] at g
          subst g
          exact c
    · rw [if_neg c]
      refine Ev.step (f := fun _ => some ((⟨#[]⟩ : ByteArray), (j : Int), true)) (fun k => ?_) (Ev.now _)
      simp only [impl_EncodeAll.l0]
      rw [if_pos (by omega), if_pos (by omega), if_pos (by omega), rd_at l j (by omega), canW_i]
      simp only [Option.bind_some]
      rw [if_neg c]
theorem FnExactEncodeAll : laws_FnExactEncodeAll.Pure := by
  intro en l _ hm hs _
  refine Ev.rounds (r := true) ?_
  unfold laws_FnExactEncodeAll.f
  by_cases h : (l.length : Int) > 1048576
  · exact Ev.congr (fun k => by rw [if_pos h]) (Ev.now true)
  · refine Ev.congr (fun k => by rw [if_neg h]) ?_
    have hl : l.length ≤ 17592186044416 := by omega
    obtain ⟨x, cs, ci⟩ : ∃ x, Ev (fun k => spec_EncodeAll.f k en l) x ∧ Ev (fun k => impl_EncodeAll.f k en l) x := by
      have gone : ∀ b, b = true → Ev (fun k => spec_EncodeAll.j0 k en l b) ((⟨#[]⟩ : ByteArray), 0, false) ∧ Ev (fun k => impl_EncodeAll.j0 k en l b) ((⟨#[]⟩ : ByteArray), 0, false) := by
        intro b hb
        subst hb
        refine ⟨Ev.step (f := fun _ => some ((⟨#[]⟩ : ByteArray), 0, false)) (fun k => ?_) (Ev.now _), Ev.step (f := fun _ => some ((⟨#[]⟩ : ByteArray), 0, false)) (fun k => ?_) (Ev.now _)⟩
        · simp only [spec_EncodeAll.j0]; rw [if_pos trivial]
        · simp only [impl_EncodeAll.j0]; rw [if_pos trivial]
      have hcs : spec_l2Code.f en = some (inB 1 5 en) := by unfold spec_l2Code.f; rw [in_s]; rfl
      have hci : impl_isCode.f en = some (inB 1 5 en) := by unfold impl_isCode.f; rw [in_i]; rfl
      unfold spec_EncodeAll.f impl_EncodeAll.f
      by_cases he : inB 1 5 en = true
      · have he2 := (inB_iff _ _ _).1 he
        by_cases ha : (l.all isR && decide (l.length ≤ 1000)) = true
        · have hr : ∀ x ∈ l, isR x = true := List.all_eq_true.1 (Bool.and_eq_true_iff.1 ha).1
          have hl2 : l.length ≤ 1000 := of_decide_eq_true (Bool.and_eq_true_iff.1 ha).2
          have hi : impl_areRunes.f l 1000 = some true := by
            unfold impl_areRunes.f
            rw [areRunesV_eq, (Bool.and_eq_true_iff.1 ha).1, decide_eq_true (by omega)]
            rfl
          have s0 := specEnc_l en he2 l hl2 hr l.length 0 [] false (fun _ => rfl) (by omega) (by simp)
          have i0 := implEnc_l en he2 l hl2 hr l.length 0 (by omega) (by simp)
          refine ⟨endV en l 0 (finV (tailV en l false)), Ev.congr (f := fun k => (spec_l1AllRunes.f k l).bind fun t => spec_EncodeAll.j0 k en l (!t)) (fun k => by rw [hcs, he, Option.bind_some, if_pos rfl]) (Ev.bind (specAllRunes_ev l hl) ?_), Ev.congr (f := fun k => impl_EncodeAll.j0 k en l false) (fun k => by rw [hci, he, Option.bind_some, if_pos rfl, hi]; rfl) ?_⟩
          · rw [ha]
            refine Ev.step (f := fun k => spec_EncodeAll.l0 k en (⟨#[]⟩ : ByteArray) 0 l (l.length : Int) 0) (fun k => ?_) s0
            simp only [spec_EncodeAll.j0]
            rw [if_neg (by simp)]
          · refine Ev.step (f := fun k => impl_EncodeAll.l0 k en l l (l.length : Int) 0) (fun k => ?_) i0
            simp only [impl_EncodeAll.j0]
            rw [if_neg (by simp)]
        · have ha' : (l.all isR && decide (l.length ≤ 1000)) = false := by simpa using ha
          have hi : impl_areRunes.f l 1000 = some false := by
            unfold impl_areRunes.f
            rw [areRunesV_eq, ← ha']
            congr 2
            rw [Bool.eq_iff_iff, decide_eq_true_iff, decide_eq_true_iff]
            omega
          refine ⟨((⟨#[]⟩ : ByteArray), 0, false), Ev.congr (f := fun k => (spec_l1AllRunes.f k l).bind fun t => spec_EncodeAll.j0 k en l (!t)) (fun k => by rw [hcs, he, Option.bind_some, if_pos rfl]) (Ev.bind (specAllRunes_ev l hl) ?_), Ev.congr (f := fun k => impl_EncodeAll.j0 k en l true) (fun k => by rw [hci, he, Option.bind_some, if_pos rfl, hi]; rfl) (gone true rfl).2⟩
          rw [ha']
          exact (gone _ rfl).1
      · have he' : inB 1 5 en = false := by simpa using he
        exact ⟨((⟨#[]⟩ : ByteArray), 0, false), Ev.congr (fun k => by rw [hcs, he', Option.bind_some, if_neg (by simp)]) (gone true rfl).1, Ev.congr (fun k => by rw [hci, he', Option.bind_some, if_neg (by simp)]) (gone true rfl).2⟩
    refine Ev.bind (toIntS_ev l hl) (Ev.bind cs (Ev.bind (toIntS_ev l hl) (Ev.bind ci ?_)))
    refine Ev.congr (fun k => by rw [if_pos rfl, if_pos rfl, bne_self_eq_false]) ?_
    refine Ev.step (f := fun k => (laws_toIntS.f k l).bind fun t192 => ((laws_eqIntS.f k l t192).bind fun t195 => (if t195 = true then (some true) else (some false)))) (fun k => by simp only [laws_FnExactEncodeAll.j0]; rw [if_neg (by simp)]) ?_
    refine Ev.bind (toIntS_ev l hl) (Ev.bind (eqIntS_ev l l hl) ?_)
    exact Ev.congr (fun k => by rw [if_pos (by simp)]) (Ev.now true)

end Go.Proofs.Ytbofmfilnjcihaa.Pure
