/-
  For every input the law FnExactTextOf returns true; no condition.
-/
import Derived.Test.YtbofmfilnjcihaaHFnExactTextOfx7
namespace Go.Proofs.Ytbofmfilnjcihaa.Pure
open Go.RowKit Go.Proofs.Ytbofmfilnjcihaa.HFnExactTextOf Go.Proofs.YtbofmfilnjcihaaW.PrintWords Go.Proofs.YtbofmfilnjcihaaW.PrintLast
set_option linter.unusedSimpArgs false
set_option linter.unusedVariables false
theorem wr (i : Int) (h0 : -9223372036854775808 ≤ i) (h1 : i ≤ 9223372036854775807) : wrap64 i = i := by unfold wrap64; omega

theorem rd_nat (l : List Int) (j : Nat) : rd l (j : Int) = l.getD j 0 := by unfold rd; simp

theorem getD_at (l : List Int) (j : Nat) (h : j < l.length) : l.getD j 0 = l[j] := by simp [List.getD_eq_getElem?_getD, h]

theorem rd_at (l : List Int) (j : Nat) (h : j < l.length) : rd l (j : Int) = l[j] := by rw [rd_nat, getD_at l j h]

theorem drop_at (l : List Int) (j : Nat) (h : j < l.length) : l.drop j = l[j] :: l.drop (j + 1) := List.drop_eq_getElem_cons h

theorem toIntS_l (l : List Int) (hl : l.length ≤ 17592186044416) : ∀ (d j : Nat) (o : List Int), j + d = l.length → o.length = l.length → (∀ i, i < j → o.getD i 0 = l.getD i 0) → Ev (fun k => laws_toIntS.l0 k l o (j : Int)) l := by
  intro d
  induction d with
  | zero =>
    intro j o hj ho he
    refine Ev.step (f := fun _ => some l) (fun k => ?_) (Ev.now l)
    simp only [laws_toIntS.l0]
    rw [if_neg (by omega)]
    congr 1
    refine List.ext_getElem (by omega) fun i h1 h2 => ?_
    have := he i (by omega)
    rwa [getD_at o i h1, getD_at l i h2] at this
  | succ d ih =>
    intro j o hj ho he
    refine Ev.step (f := fun k => laws_toIntS.l0 k l (o.set j (l.getD j 0)) ((j + 1 : Nat) : Int)) (fun k => ?_) (ih (j + 1) _ (by omega) (by rw [List.length_set]; exact ho) fun i hi => ?_)
    · simp only [laws_toIntS.l0]
      rw [if_pos (by omega), if_pos (by omega), if_pos (by omega), wr _ (by omega) (by omega), rd_nat]
      simp
    · by_cases e : i = j
      · subst e
        rw [getD_at _ _ (by rw [List.length_set]; omega)]
        simp
      · rw [← he i (by omega)]
        simp [List.getD_eq_getElem?_getD, List.getElem?_set, Ne.symm e]

theorem toIntS_ev (l : List Int) (hl : l.length ≤ 17592186044416) : Ev (fun k => laws_toIntS.f k l) l := by
  refine Ev.congr (f := fun k => laws_toIntS.l0 k l (List.replicate l.length 0) ((0 : Nat) : Int)) (fun k => ?_) (toIntS_l l hl l.length 0 _ (by omega) (by simp) (fun i hi => by omega))
  unfold laws_toIntS.f
  rw [if_pos (by omega), if_pos (by omega)]
  simp

theorem eqIntS_l (a b : List Int) (hab : a.length = b.length) (hl : a.length ≤ 17592186044416) : ∀ (d j : Nat), j + d = a.length → a.take j = b.take j → Ev (fun k => laws_eqIntS.l0 k a b (j : Int)) (decide (a = b)) := by
  intro d
  induction d with
  | zero =>
    intro j hj ht
    refine Ev.step (f := fun _ => some (decide (a = b))) (fun k => ?_) (Ev.now _)
    simp only [laws_eqIntS.l0]
    rw [if_neg (by omega)]
    rw [List.take_of_length_le (by omega), List.take_of_length_le (by omega)] at ht
    simp [ht]
  | succ d ih =>
    intro j hj ht
    by_cases e : a[j]'(by omega) = b[j]'(by omega)
    · refine Ev.step (f := fun k => laws_eqIntS.l0 k a b ((j + 1 : Nat) : Int)) (fun k => ?_) (ih (j + 1) (by omega) ?_)
      · simp only [laws_eqIntS.l0]
        rw [if_pos (by omega), if_pos (by omega), if_pos (by omega), rd_at a j (by omega), rd_at b j (by omega), if_pos e, wr _ (by omega) (by omega)]
        simp
      · rw [List.take_succ_eq_append_getElem (by omega), List.take_succ_eq_append_getElem (by omega), ht, e]
    · refine Ev.step (f := fun _ => some (decide (a = b))) (fun k => ?_) (Ev.now _)
      simp only [laws_eqIntS.l0]
      rw [if_pos (by omega), if_pos (by omega), if_pos (by omega), rd_at a j (by omega), rd_at b j (by omega), if_neg e]
      have : ¬ a = b := fun h => e (by subst h; rfl)
      simp [this]

theorem eqIntS_ev (a b : List Int) (hl : a.length ≤ 17592186044416) : Ev (fun k => laws_eqIntS.f k a b) (decide (a = b)) := by
  by_cases h : a.length = b.length
  · refine Ev.congr (f := fun k => laws_eqIntS.l0 k a b ((0 : Nat) : Int)) (fun k => ?_) (eqIntS_l a b h hl a.length 0 (by omega) (by simp))
    unfold laws_eqIntS.f
    rw [if_pos (by omega)]
    simp
  · refine Ev.congr (f := fun _ => some (decide (a = b))) (fun k => ?_) (Ev.now _)
    unfold laws_eqIntS.f
    rw [if_neg (by omega)]
    have : ¬ a = b := fun e => h (by rw [e])
    simp [this]

/-- Within bounds. -/
def inB (lo hi n : Int) : Bool := decide (lo ≤ n ∧ n ≤ hi)
theorem inB_iff (lo hi n : Int) : inB lo hi n = true ↔ lo ≤ n ∧ n ≤ hi := by simp [inB]

theorem in_s (a b c : Int) : spec_l1In.f a b c = some (inB b c a) := by
  unfold spec_l1In.f inB
  by_cases h : a ≥ b
  · rw [if_pos h]; simp [show b ≤ a from h]
  · rw [if_neg h]; simp [show ¬ b ≤ a from h]

theorem in_i (a b c : Int) : impl_inRange.f a b c = some (inB b c a) := by
  unfold impl_inRange.f inB
  by_cases h : b ≤ a
  · rw [if_pos h]; simp [h]
  · rw [if_neg h]; simp [h]

def isR (a : Int) : Bool := inB 0 1114111 a && !inB 55296 57343 a
theorem gr_s (a : Int) : spec_GoodRune.f a = some (isR a) := by
  unfold spec_GoodRune.f isR
  rw [in_s, in_s]
  simp only [Option.bind_some]
  cases inB 0 1114111 a <;> simp

theorem gr_i (a : Int) : impl_GoodRune.f a = some (isR a) := by
  unfold impl_GoodRune.f isR
  rw [in_i, in_i]
  simp only [Option.bind_some]
  cases inB 0 1114111 a <;> simp

theorem specAllRunes_l (l : List Int) (hl : l.length ≤ 17592186044416) : ∀ (d j : Nat), j + d = l.length → Ev (fun k => spec_l1AllRunes.l0 k l l (l.length : Int) (j : Int)) ((l.drop j).all isR && decide (l.length ≤ 1000)) := by
  intro d
  induction d with
  | zero =>
    intro j hj
    refine Ev.step (f := fun _ => some ((l.drop j).all isR && decide (l.length ≤ 1000))) (fun k => ?_) (Ev.now _)
    simp only [spec_l1AllRunes.l0]
    rw [if_neg (by omega), List.drop_of_length_le (by omega)]
    simp
    omega
  | succ d ih =>
    intro j hj
    rw [drop_at l j (by omega), List.all_cons]
    cases e : isR (l[j]'(by omega)) with
    | true =>
      refine Ev.step (f := fun k => spec_l1AllRunes.l0 k l l (l.length : Int) ((j + 1 : Nat) : Int)) (fun k => ?_) (by simpa using ih (j + 1) (by omega))
      simp only [spec_l1AllRunes.l0]
      rw [if_pos (by omega), if_pos (by omega), if_pos (by omega), rd_at l j (by omega), gr_s, wr _ (by omega) (by omega), e]
      simp
    | false =>
      refine Ev.step (f := fun _ => some false) (fun k => ?_) (by simpa using Ev.now false)
      simp only [spec_l1AllRunes.l0]
      rw [if_pos (by omega), if_pos (by omega), if_pos (by omega), rd_at l j (by omega), gr_s, e]
      simp

theorem specAllRunes_ev (l : List Int) (hl : l.length ≤ 17592186044416) : Ev (fun k => spec_l1AllRunes.f k l) (l.all isR && decide (l.length ≤ 1000)) :=
  Ev.congr (fun k => by unfold spec_l1AllRunes.f; rfl) (by simpa using specAllRunes_l l hl l.length 0 (by omega))

theorem goodRuneV_isR (r : Int) : goodRuneV r = isR r := by
  unfold goodRuneV isR inB
  rfl

theorem areRunesV_eq (l : List Int) (m : Int) : areRunesV l m = (l.all isR && decide ((l.length : Int) ≤ m)) := by
  unfold areRunesV
  have e : (!l.any badRuneV) = l.all isR := by
    rw [List.not_any_eq_all_not]
    congr 1
    funext x
    unfold badRuneV
    rw [Bool.not_not, goodRuneV_isR]
  rw [e]
  by_cases h : (l.length : Int) ≤ m
  · simp [h]
  · simp [h]

/-- The bytes of a rune. -/
def u8V (r : Int) : List Int :=
  if r < 128 then [r] else if r < 2048 then [192 + r / 64, 128 + r % 64] else if r < 65536 then [224 + r / 4096, 128 + r / 64 % 64, 128 + r % 64]
  else [240 + r / 262144, 128 + r / 4096 % 64, 128 + r / 64 % 64, 128 + r % 64]

theorem isR_range (r : Int) (h : isR r = true) : 0 ≤ r ∧ r ≤ 1114111 ∧ ¬ (55296 ≤ r ∧ r ≤ 57343) := by
  unfold isR at h
  rw [Bool.and_eq_true, inB_iff, Bool.not_eq_true', Bool.eq_false_iff, Ne, inB_iff] at h
  exact ⟨h.1.1, h.1.2, h.2⟩

theorem u8_s (r : Int) (h : isR r = true) : spec_l1Utf8.f r = some (strOfNums (u8V r)) := by
  obtain ⟨h0, h1, _⟩ := isR_range r h
  unfold spec_l1Utf8.f u8V
  by_cases c1 : r < 128
  · rw [if_pos c1, if_pos c1, Int.emod_eq_of_lt h0 (by omega)]
  · rw [if_neg c1, if_neg c1]
    by_cases c2 : r < 2048
    · rw [if_pos c2, if_pos c2, Int.tdiv_eq_ediv_of_nonneg h0, Int.tmod_eq_emod_of_nonneg h0, wr (r / 64) (by omega) (by omega), wr (192 + r / 64) (by omega) (by omega), wr (128 + r % 64) (by omega) (by omega), Int.emod_eq_of_lt (a := 192 + r / 64) (by omega) (by omega), Int.emod_eq_of_lt (a := 128 + r % 64) (by omega) (by omega)]
    · rw [if_neg c2, if_neg c2]
      by_cases c3 : r < 65536
      · rw [if_pos c3, if_pos c3, Int.tdiv_eq_ediv_of_nonneg h0, Int.tdiv_eq_ediv_of_nonneg h0, Int.tmod_eq_emod_of_nonneg h0, wr (r / 64) (by omega) (by omega), wr (r / 4096) (by omega) (by omega), Int.tmod_eq_emod_of_nonneg (a := r / 64) (by omega), wr (224 + r / 4096) (by omega) (by omega), wr (128 + r % 64) (by omega) (by omega), wr (128 + r / 64 % 64) (by omega) (by omega), Int.emod_eq_of_lt (a := 224 + r / 4096) (by omega) (by omega), Int.emod_eq_of_lt (a := 128 + r % 64) (by omega) (by omega), Int.emod_eq_of_lt (a := 128 + r / 64 % 64) (by omega) (by omega)]
      · rw [if_neg c3, if_neg c3, Int.tdiv_eq_ediv_of_nonneg h0, Int.tdiv_eq_ediv_of_nonneg h0, Int.tdiv_eq_ediv_of_nonneg h0, Int.tmod_eq_emod_of_nonneg h0, wr (r / 64) (by omega) (by omega), wr (r / 4096) (by omega) (by omega), wr (r / 262144) (by omega) (by omega), Int.tmod_eq_emod_of_nonneg (a := r / 64) (by omega), Int.tmod_eq_emod_of_nonneg (a := r / 4096) (by omega), wr (240 + r / 262144) (by omega) (by omega), wr (128 + r % 64) (by omega) (by omega), wr (128 + r / 64 % 64) (by omega) (by omega), wr (128 + r / 4096 % 64) (by omega) (by omega), Int.emod_eq_of_lt (a := 240 + r / 262144) (by omega) (by omega), Int.emod_eq_of_lt (a := 128 + r % 64) (by omega) (by omega), Int.emod_eq_of_lt (a := 128 + r / 64 % 64) (by omega) (by omega), Int.emod_eq_of_lt (a := 128 + r / 4096 % 64) (by omega) (by omega)]

/-- The bytes of runes. -/
def txt (l : List Int) : List Int := l.flatMap u8V

theorem u8V_bytes (r : Int) (h : isR r = true) : ∀ x ∈ u8V r, 0 ≤ x ∧ x < 256 := by
  obtain ⟨h0, h1, _⟩ := isR_range r h
  intro x hx
  unfold u8V at hx
  split at hx
  · simp only [List.mem_cons, List.not_mem_nil, or_false] at hx; omega
  · split at hx
    · simp only [List.mem_cons, List.not_mem_nil, or_false] at hx; omega
    · split at hx
      · simp only [List.mem_cons, List.not_mem_nil, or_false] at hx; omega
      · simp only [List.mem_cons, List.not_mem_nil, or_false] at hx; omega

theorem u8V_length (r : Int) : (u8V r).length ≤ 4 := by
  unfold u8V
  split
  · simp
  · split
    · simp
    · split <;> simp

theorem bytesOf_str (l : List Int) (h : ∀ x ∈ l, 0 ≤ x ∧ x < 256) : bytesOf (strOfNums l) = l := by
  unfold bytesOf strOfNums
  simp only [List.map_map]
  have : ∀ x ∈ l, ((fun b : UInt8 => (b.toNat : Int)) ∘ fun n : Int => UInt8.ofNat n.toNat) x = x := by
    intro x hx
    have := h x hx
    simp only [Function.comp, UInt8.toNat_ofNat']
    omega
  rw [List.map_congr_left this]
  simp

theorem size_str (l : List Int) : (strOfNums l).size = l.length := by
  unfold strOfNums
  simp [ByteArray.size]

theorem specText_l (l : List Int) (hl : l.length ≤ 17592186044416) (hr : ∀ x ∈ l, isR x = true) : ∀ (d j : Nat) (acc : List Int), j + d = l.length → acc.length ≤ 4 * j → Ev (fun k => spec_l1TextOf.l0 k acc l (l.length : Int) (j : Int)) (strOfNums (acc ++ txt (l.drop j))) := by
  intro d
  induction d with
  | zero =>
    intro j acc hj ha
    refine Ev.step (f := fun _ => some (strOfNums (acc ++ txt (l.drop j)))) (fun k => ?_) (Ev.now _)
    simp only [spec_l1TextOf.l0]
    rw [if_neg (by omega), List.drop_of_length_le (by omega)]
    simp [txt]
  | succ d ih =>
    intro j acc hj ha
    have hg := hr (l[j]'(by omega)) (List.getElem_mem _)
    have h4 := u8V_length (l[j]'(by omega))
    refine Ev.step (f := fun k => spec_l1TextOf.l0 k (acc ++ u8V (l[j]'(by omega))) l (l.length : Int) ((j + 1 : Nat) : Int)) (fun k => ?_) ?_
    · simp only [spec_l1TextOf.l0]
      rw [if_pos (by omega), if_pos (by omega), if_pos (by omega), rd_at l j (by omega), u8_s _ hg, wr _ (by omega) (by omega)]
      simp only [Option.bind_some]
      rw [size_str, if_pos (by omega), bytesOf_str _ (u8V_bytes _ hg)]
      rfl
    · have := ih (j + 1) (acc ++ u8V (l[j]'(by omega))) (by omega) (by rw [List.length_append]; omega)
      rw [drop_at l j (by omega), show txt (l[j]'(by omega) :: l.drop (j + 1)) = u8V (l[j]'(by omega)) ++ txt (l.drop (j + 1)) from List.flatMap_cons, ← List.append_assoc]
      exact this

theorem specText_ev (l : List Int) (hl : l.length ≤ 17592186044416) (hr : ∀ x ∈ l, isR x = true) : Ev (fun k => spec_l1TextOf.f k l) (strOfNums (txt l)) :=
  Ev.congr (fun k => by unfold spec_l1TextOf.f; rfl) (by simpa using specText_l l hl hr l.length 0 [] (by omega) (by simp))

theorem or192 (x : Int) (h0 : 0 ≤ x) (h1 : x < 32) : Go.bits .or .u8 192 x = 192 + x := by
  obtain ⟨n, rfl⟩ := Int.eq_ofNat_of_zero_le h0
  have : ∀ n : Fin 32, Go.bits .or .u8 192 ((n.val : Nat) : Int) = 192 + ((n.val : Nat) : Int) := by decide +kernel
  exact this ⟨n, by omega⟩
theorem or224 (x : Int) (h0 : 0 ≤ x) (h1 : x < 16) : Go.bits .or .u8 224 x = 224 + x := by
  obtain ⟨n, rfl⟩ := Int.eq_ofNat_of_zero_le h0
  have : ∀ n : Fin 16, Go.bits .or .u8 224 ((n.val : Nat) : Int) = 224 + ((n.val : Nat) : Int) := by decide +kernel
  exact this ⟨n, by omega⟩
theorem or240 (x : Int) (h0 : 0 ≤ x) (h1 : x < 8) : Go.bits .or .u8 240 x = 240 + x := by
  obtain ⟨n, rfl⟩ := Int.eq_ofNat_of_zero_le h0
  have : ∀ n : Fin 8, Go.bits .or .u8 240 ((n.val : Nat) : Int) = 240 + ((n.val : Nat) : Int) := by decide +kernel
  exact this ⟨n, by omega⟩
theorem appendRune_ev (l : List Int) (r : Int) (hl : l.length ≤ 70368744177664) (h : isR r = true) : Ev (fun k => utf8_AppendRune.f k l r) (l ++ u8V r) := by
  obtain ⟨h0, h1, h2⟩ := isR_range r h
  unfold utf8_AppendRune.f u8V
  have e0 : r % 4294967296 = r := Int.emod_eq_of_lt h0 (by omega)
  rw [e0]
  by_cases c1 : r < 128
  · refine Ev.congr (fun k => by rw [if_pos (by omega), if_pos (by omega)]) ?_
    rw [if_pos c1, Int.emod_eq_of_lt (a := r) (b := 256) h0 (by omega)]
    exact Ev.now _
  · refine Ev.congr (fun k => by rw [if_neg (by omega)]) ?_
    rw [if_neg c1]
    refine Ev.congr (f := fun k => utf8_appendRuneNonASCII.f k l r) (fun k => by cases utf8_appendRuneNonASCII.f k l r <;> rfl) ?_
    unfold utf8_appendRuneNonASCII.f
    rw [e0]
    by_cases c2 : r < 2048
    · refine Ev.congr (fun k => by rw [if_pos (by omega)]) ?_
      rw [if_pos c2, Int.emod_eq_of_lt (a := r / 64) (b := 256) (by omega) (by omega), or192 _ (by omega) (by omega)]
      simp only [Option.bind_some]
      exact Ev.congr (fun k => by rw [if_pos (by simp; omega)]) (Ev.now _)
    · refine Ev.congr (fun k => by rw [if_neg (by omega)]) ?_
      rw [if_neg c2]
      by_cases c3 : r < 65536
      · rw [if_pos c3]
        have j0 : Ev (fun k => utf8_appendRuneNonASCII.j0 k l r r true) (l ++ [224 + r / 4096, 128 + r / 64 % 64, 128 + r % 64]) := by
          refine Ev.step (fun k => by simp only [utf8_appendRuneNonASCII.j0]; rw [if_pos trivial]) ?_
          rw [Int.emod_eq_of_lt (a := r / 4096) (b := 256) (by omega) (by omega), or224 _ (by omega) (by omega)]
          simp only [Option.bind_some]
          exact Ev.congr (fun k => by rw [if_pos (by simp; omega)]) (Ev.now _)
        by_cases c4 : r < 55296
        · exact Ev.congr (fun k => by rw [if_pos c4, decide_eq_true c4]) j0
        · exact Ev.congr (fun k => by rw [if_neg c4, if_pos (by omega), decide_eq_true (show r ≤ 65535 by omega)]) j0
      · rw [if_neg c3]
        refine Ev.congr (fun k => by rw [if_neg (show ¬ r < 55296 by omega), if_pos (by omega), decide_eq_false (show ¬ r ≤ 65535 by omega)]) ?_
        refine Ev.step (fun k => by simp only [utf8_appendRuneNonASCII.j0]; rw [if_neg (by simp), if_pos (by omega), if_pos (by omega)]) ?_
        rw [Int.emod_eq_of_lt (a := r / 262144) (b := 256) (by omega) (by omega), or240 _ (by omega) (by omega)]
        simp only [Option.bind_some]
        exact Ev.congr (fun k => by rw [if_pos (by simp; omega)]) (Ev.now _)

theorem implText_l (l : List Int) (hl : l.length ≤ 17592186044416) (hr : ∀ x ∈ l, isR x = true) : ∀ (d j : Nat) (acc : List Int), j + d = l.length → acc.length ≤ 4 * j → Ev (fun k => impl_textOf.l0 k acc l (l.length : Int) (j : Int)) (strOfNums (acc ++ txt (l.drop j))) := by
  intro d
  induction d with
  | zero =>
    intro j acc hj ha
    refine Ev.step (f := fun _ => some (strOfNums (acc ++ txt (l.drop j)))) (fun k => ?_) (Ev.now _)
    simp only [impl_textOf.l0]
    rw [if_neg (by omega), List.drop_of_length_le (by omega)]
    simp [txt]
  | succ d ih =>
    intro j acc hj ha
    have hg := hr (l[j]'(by omega)) (List.getElem_mem _)
    obtain ⟨h0, h1, h2⟩ := isR_range _ hg
    have h4 := u8V_length (l[j]'(by omega))
    refine Ev.step (f := fun k => (utf8_AppendRune.f k acc (l[j]'(by omega))).bind fun t => impl_textOf.l0 k t l (l.length : Int) ((j + 1 : Nat) : Int)) (fun k => ?_) (Ev.bind (appendRune_ev acc _ (by omega) hg) ?_)
    · simp only [impl_textOf.l0]
      rw [if_pos (by omega), if_pos (by omega), if_pos (by omega), rd_at l j (by omega), wr _ (by omega) (by omega), show wrap32 (l[j]'(by omega)) = l[j]'(by omega) from by unfold wrap32; omega]
      rfl
    · have := ih (j + 1) (acc ++ u8V (l[j]'(by omega))) (by omega) (by rw [List.length_append]; omega)
      rw [drop_at l j (by omega), show txt (l[j]'(by omega) :: l.drop (j + 1)) = u8V (l[j]'(by omega)) ++ txt (l.drop (j + 1)) from List.flatMap_cons, ← List.append_assoc]
      exact this

theorem implText_ev (l : List Int) (hl : l.length ≤ 17592186044416) (hr : ∀ x ∈ l, isR x = true) : Ev (fun k => impl_textOf.f k l) (strOfNums (txt l)) :=
  Ev.congr (fun k => by unfold impl_textOf.f; rfl) (by simpa using implText_l l hl hr l.length 0 [] (by omega) (by simp))

theorem FnExactTextOf : laws_FnExactTextOf.Pure := by
  intro l hm hs _
  refine Ev.rounds (r := true) ?_
  unfold laws_FnExactTextOf.f
  by_cases h : (l.length : Int) > 1048576
  · exact Ev.congr (fun k => by rw [if_pos h]) (Ev.now true)
  · refine Ev.congr (fun k => by rw [if_neg h]) ?_
    have hl : l.length ≤ 17592186044416 := by omega
    obtain ⟨x, cs, ci⟩ : ∃ x, Ev (fun k => spec_TextOf.f k l) x ∧ Ev (fun k => impl_TextOf.f k l) x := by
      unfold spec_TextOf.f impl_TextOf.f
      by_cases ha : (l.all isR && decide (l.length ≤ 1000)) = true
      · have hr : ∀ x ∈ l, isR x = true := List.all_eq_true.1 (Bool.and_eq_true_iff.1 ha).1
        have hl2 : l.length ≤ 1000 := of_decide_eq_true (Bool.and_eq_true_iff.1 ha).2
        have hi : impl_areRunes.f l 1000 = some true := by
          unfold impl_areRunes.f
          rw [areRunesV_eq, (Bool.and_eq_true_iff.1 ha).1, decide_eq_true (by omega)]
          rfl
        refine ⟨if ((strOfNums (txt l)).size : Int) > 1000 then ((⟨#[]⟩ : ByteArray), false) else (strOfNums (txt l), true), Ev.bind (specAllRunes_ev l hl) ?_, Ev.congr (fun k => by rw [hi, Option.bind_some, if_pos rfl]) (Ev.bind (implText_ev l hl hr) ?_)⟩
        · rw [ha]
          refine Ev.congr (fun k => by rw [if_pos rfl]) (Ev.bind (specText_ev l hl hr) ?_)
          split
          · exact Ev.now _
          · exact Ev.bind (specText_ev l hl hr) (Ev.now _)
        · split
          · exact Ev.now _
          · exact Ev.now _
      · have ha' : (l.all isR && decide (l.length ≤ 1000)) = false := by simpa using ha
        have hi : impl_areRunes.f l 1000 = some false := by
          unfold impl_areRunes.f
          rw [areRunesV_eq, ← ha']
          congr 2
          rw [Bool.eq_iff_iff, decide_eq_true_iff, decide_eq_true_iff]
          omega
        refine ⟨((⟨#[]⟩ : ByteArray), false), Ev.bind (specAllRunes_ev l hl) ?_, Ev.congr (fun k => by rw [hi, Option.bind_some, if_neg (by simp)]) (Ev.now _)⟩
        rw [ha']
        exact Ev.congr (fun k => by rw [if_neg (by simp)]) (Ev.now _)
    refine Ev.bind (toIntS_ev l hl) (Ev.bind cs (Ev.bind (toIntS_ev l hl) (Ev.bind ci ?_)))
    refine Ev.congr (fun k => by rw [if_pos rfl, bne_self_eq_false]) ?_
    refine Ev.step (fun k => by simp only [laws_FnExactTextOf.j0]; rw [if_neg (by simp)]) ?_
    refine Ev.bind (toIntS_ev l hl) (Ev.bind (eqIntS_ev l l hl) ?_)
    exact Ev.congr (fun k => by rw [if_pos (by simp)]) (Ev.now true)

end Go.Proofs.Ytbofmfilnjcihaa.Pure
