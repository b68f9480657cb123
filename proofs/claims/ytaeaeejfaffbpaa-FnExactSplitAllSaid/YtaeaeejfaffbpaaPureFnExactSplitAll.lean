/-
  For every input the law FnExactSplitAll returns true; no condition.
-/
import Derived.Test.YtaeaeejfaffbpaaHFnExactSplitAllx5
namespace Go.Proofs.Ytaeaeejfaffbpaa.Pure
open Go.RowKit Go.Proofs.Ytaeaeejfaffbpaa.HFnExactSplitAll Go.Proofs.YtaeaeejfaffbpaaW.PrintWords Go.Proofs.YtaeaeejfaffbpaaW.PrintLast
set_option linter.unusedSimpArgs false
set_option linter.unusedVariables false
theorem wr (i : Int) (h0 : -9223372036854775808 ≤ i) (h1 : i ≤ 9223372036854775807) : wrap64 i = i := by unfold wrap64; omega

theorem rd_nat (l : List Int) (j : Nat) : rd l (j : Int) = l.getD j 0 := by unfold rd; simp

theorem getD_at (l : List Int) (j : Nat) (h : j < l.length) : l.getD j 0 = l[j] := by simp [List.getD_eq_getElem?_getD, h]

theorem rd_at (l : List Int) (j : Nat) (h : j < l.length) : rd l (j : Int) = l[j] := by rw [rd_nat, getD_at l j h]

theorem drop_at (l : List Int) (j : Nat) (h : j < l.length) : l.drop j = l[j] :: l.drop (j + 1) := List.drop_eq_getElem_cons h

theorem toIntS_l (l : List Int) (hl : l.length ≤ 17592186044416) : ∀ (d j : Nat) (o : List Int), j + d = l.length → o.length = l.length → (∀ i, i < j → o.getD i 0 = l.getD i 0) → Ev (fun k => laws_toIntS.l0 k l o (j : Int)) l := by
  intro d
  induction d with
  | zero =>
    intro j o hj ho he
    refine Ev.step (f := fun _ => some l) (fun k => ?_) (Ev.now l)
    simp only [laws_toIntS.l0]
    rw [if_neg (by omega)]
    congr 1
    refine List.ext_getElem (by omega) fun i h1 h2 => ?_
    have := he i (by omega)
    rwa [getD_at o i h1, getD_at l i h2] at this
  | succ d ih =>
    intro j o hj ho he
    refine Ev.step (f := fun k => laws_toIntS.l0 k l (o.set j (l.getD j 0)) ((j + 1 : Nat) : Int)) (fun k => ?_) (ih (j + 1) _ (by omega) (by rw [List.length_set]; exact ho) fun i hi => ?_)
    · simp only [laws_toIntS.l0]
      rw [if_pos (by omega), if_pos (by omega), if_pos (by omega), wr _ (by omega) (by omega), rd_nat]
      simp
    · by_cases e : i = j
      · subst e
        rw [getD_at _ _ (by rw [List.length_set]; omega)]
        simp
      · rw [← he i (by omega)]
        simp [List.getD_eq_getElem?_getD, List.getElem?_set, Ne.symm e]

theorem toIntS_ev (l : List Int) (hl : l.length ≤ 17592186044416) : Ev (fun k => laws_toIntS.f k l) l := by
  refine Ev.congr (f := fun k => laws_toIntS.l0 k l (List.replicate l.length 0) ((0 : Nat) : Int)) (fun k => ?_) (toIntS_l l hl l.length 0 _ (by omega) (by simp) (fun i hi => by omega))
  unfold laws_toIntS.f
  rw [if_pos (by omega), if_pos (by omega)]
  simp

theorem eqIntS_l (a b : List Int) (hab : a.length = b.length) (hl : a.length ≤ 17592186044416) : ∀ (d j : Nat), j + d = a.length → a.take j = b.take j → Ev (fun k => laws_eqIntS.l0 k a b (j : Int)) (decide (a = b)) := by
  intro d
  induction d with
  | zero =>
    intro j hj ht
    refine Ev.step (f := fun _ => some (decide (a = b))) (fun k => ?_) (Ev.now _)
    simp only [laws_eqIntS.l0]
    rw [if_neg (by omega)]
    rw [List.take_of_length_le (by omega), List.take_of_length_le (by omega)] at ht
    simp [ht]
  | succ d ih =>
    intro j hj ht
    by_cases e : a[j]'(by omega) = b[j]'(by omega)
    · refine Ev.step (f := fun k => laws_eqIntS.l0 k a b ((j + 1 : Nat) : Int)) (fun k => ?_) (ih (j + 1) (by omega) ?_)
      · simp only [laws_eqIntS.l0]
        rw [if_pos (by omega), if_pos (by omega), if_pos (by omega), rd_at a j (by omega), rd_at b j (by omega), if_pos e, wr _ (by omega) (by omega)]
        simp
      · rw [List.take_succ_eq_append_getElem (by omega), List.take_succ_eq_append_getElem (by omega), ht, e]
    · refine Ev.step (f := fun _ => some (decide (a = b))) (fun k => ?_) (Ev.now _)
      simp only [laws_eqIntS.l0]
      rw [if_pos (by omega), if_pos (by omega), if_pos (by omega), rd_at a j (by omega), rd_at b j (by omega), if_neg e]
      have : ¬ a = b := fun h => e (by subst h; rfl)
      simp [this]

theorem eqIntS_ev (a b : List Int) (hl : a.length ≤ 17592186044416) : Ev (fun k => laws_eqIntS.f k a b) (decide (a = b)) := by
  by_cases h : a.length = b.length
  · refine Ev.congr (f := fun k => laws_eqIntS.l0 k a b ((0 : Nat) : Int)) (fun k => ?_) (eqIntS_l a b h hl a.length 0 (by omega) (by simp))
    unfold laws_eqIntS.f
    rw [if_pos (by omega)]
    simp
  · refine Ev.congr (f := fun _ => some (decide (a = b))) (fun k => ?_) (Ev.now _)
    unfold laws_eqIntS.f
    rw [if_neg (by omega)]
    have : ¬ a = b := fun e => h (by rw [e])
    simp [this]

/-- Within bounds. -/
def inB (lo hi n : Int) : Bool := decide (lo ≤ n ∧ n ≤ hi)
theorem inB_iff (lo hi n : Int) : inB lo hi n = true ↔ lo ≤ n ∧ n ≤ hi := by simp [inB]

theorem in_s (a b c : Int) : spec_l1In.f a b c = some (inB b c a) := by
  unfold spec_l1In.f inB
  by_cases h : a ≥ b
  · rw [if_pos h]; simp [show b ≤ a from h]
  · rw [if_neg h]; simp [show ¬ b ≤ a from h]

theorem in_i (a b c : Int) : impl_inRange.f a b c = some (inB b c a) := by
  unfold impl_inRange.f inB
  by_cases h : b ≤ a
  · rw [if_pos h]; simp [h]
  · rw [if_neg h]; simp [h]

def isR (a : Int) : Bool := inB 0 1114111 a && !inB 55296 57343 a
theorem gr_s (a : Int) : spec_GoodRune.f a = some (isR a) := by
  unfold spec_GoodRune.f isR
  rw [in_s, in_s]
  simp only [Option.bind_some]
  cases inB 0 1114111 a <;> simp

theorem gr_i (a : Int) : impl_GoodRune.f a = some (isR a) := by
  unfold impl_GoodRune.f isR
  rw [in_i, in_i]
  simp only [Option.bind_some]
  cases inB 0 1114111 a <;> simp

def iota (m : Int) (n : Nat) : List Int := (List.range n).map fun (i : Nat) => m + (i : Int)
theorem iota_length (m : Int) (n : Nat) : (iota m n).length = n := by simp [iota]
theorem iota_get (m : Int) (n i : Nat) (h : i < n) : (iota m n).getD i 0 = m + (i : Int) := by simp [iota, List.getD_eq_getElem?_getD, h]

theorem markIntS_l (m : Int) (n : Nat) (hm : 0 ≤ m) (hn : m + (n : Int) ≤ 4611686018427387904) : ∀ (d j : Nat) (o : List Int), j + d = n → o.length = n → (∀ i, i < j → o.getD i 0 = m + (i : Int)) → Ev (fun k => laws_markIntS.l0 k o (m + (j : Int)) (j : Int)) (m + (n : Int), iota m n) := by
  intro d
  induction d with
  | zero =>
    intro j o hj ho he
    refine Ev.step (f := fun _ => some (m + (n : Int), iota m n)) (fun k => ?_) (Ev.now _)
    simp only [laws_markIntS.l0]
    rw [if_neg (by omega)]
    have e : o = iota m n := by
      refine List.ext_getElem (by rw [iota_length]; exact ho) fun i h1 h2 => ?_
      have h3 := he i (by omega)
      rw [← iota_get m n i (by omega), getD_at o i h1, getD_at _ i h2] at h3
      exact h3
    rw [e, show j = n from by omega]
  | succ d ih =>
    intro j o hj ho he
    refine Ev.step (f := fun k => laws_markIntS.l0 k (o.set j (m + (j : Int))) (m + ((j + 1 : Nat) : Int)) ((j + 1 : Nat) : Int)) (fun k => ?_) (ih (j + 1) _ (by omega) (by rw [List.length_set]; exact ho) fun i hi => ?_)
    · simp only [laws_markIntS.l0]
      rw [if_pos (by omega), if_pos (by omega), wr ((j : Int) + 1) (by omega) (by omega), wr (m + (j : Int) + 1) (by omega) (by omega)]
      simp [Int.add_assoc]
    · by_cases e : i = j
      · subst e
        rw [getD_at _ _ (by rw [List.length_set]; omega)]
        simp
      · rw [← he i (by omega)]
        simp [List.getD_eq_getElem?_getD, List.getElem?_set, Ne.symm e]

theorem markIntS_ev (l : List Int) (m : Int) (hm : 0 ≤ m) (hn : m + (l.length : Int) ≤ 4611686018427387904) : Ev (fun k => laws_markIntS.f k l m) (m + (l.length : Int), iota m l.length) :=
  Ev.congr (fun k => by unfold laws_markIntS.f; simp) (markIntS_l m l.length hm hn l.length 0 l (by omega) rfl (fun i hi => by omega))

theorem heldIntS_l (m : Int) (n : Nat) (hm : 0 ≤ m) (hn : m + (n : Int) ≤ 4611686018427387904) : ∀ (d j : Nat), j + d = n → Ev (fun k => laws_heldIntS.l0 k (iota m n) (m + (j : Int)) (j : Int)) (m + (n : Int)) := by
  intro d
  induction d with
  | zero =>
    intro j hj
    refine Ev.step (f := fun _ => some (m + (n : Int))) (fun k => ?_) (Ev.now _)
    simp only [laws_heldIntS.l0]
    rw [if_neg (by rw [iota_length]; omega), show j = n from by omega]
  | succ d ih =>
    intro j hj
    refine Ev.step (f := fun k => laws_heldIntS.l0 k (iota m n) (m + ((j + 1 : Nat) : Int)) ((j + 1 : Nat) : Int)) (fun k => ?_) (ih (j + 1) (by omega))
    simp only [laws_heldIntS.l0]
    rw [if_pos (by rw [iota_length]; omega), if_pos (by omega), rd_nat, iota_get m n j (by omega), if_pos rfl, wr ((j : Int) + 1) (by omega) (by omega), wr (m + (j : Int) + 1) (by omega) (by omega)]
    simp [Int.add_assoc]

theorem heldIntS_ev (m : Int) (n : Nat) (hm : 0 ≤ m) (hn : m + (n : Int) ≤ 4611686018427387904) : Ev (fun k => laws_heldIntS.f k (iota m n) m) (m + (n : Int)) :=
  Ev.congr (fun k => by unfold laws_heldIntS.f; simp) (heldIntS_l m n hm hn n 0 (by omega))

theorem specAllRunes_l (l : List Int) (hl : l.length ≤ 17592186044416) : ∀ (d j : Nat), j + d = l.length → Ev (fun k => spec_l1AllRunes.l0 k l l (l.length : Int) (j : Int)) ((l.drop j).all isR && decide (l.length ≤ 1000)) := by
  intro d
  induction d with
  | zero =>
    intro j hj
    refine Ev.step (f := fun _ => some ((l.drop j).all isR && decide (l.length ≤ 1000))) (fun k => ?_) (Ev.now _)
    simp only [spec_l1AllRunes.l0]
    rw [if_neg (by omega), List.drop_of_length_le (by omega)]
    simp
    omega
  | succ d ih =>
    intro j hj
    rw [drop_at l j (by omega), List.all_cons]
    cases e : isR (l[j]'(by omega)) with
    | true =>
      refine Ev.step (f := fun k => spec_l1AllRunes.l0 k l l (l.length : Int) ((j + 1 : Nat) : Int)) (fun k => ?_) (by simpa using ih (j + 1) (by omega))
      simp only [spec_l1AllRunes.l0]
      rw [if_pos (by omega), if_pos (by omega), if_pos (by omega), rd_at l j (by omega), gr_s, wr _ (by omega) (by omega), e]
      simp
    | false =>
      refine Ev.step (f := fun _ => some false) (fun k => ?_) (by simpa using Ev.now false)
      simp only [spec_l1AllRunes.l0]
      rw [if_pos (by omega), if_pos (by omega), if_pos (by omega), rd_at l j (by omega), gr_s, e]
      simp

theorem specAllRunes_ev (l : List Int) (hl : l.length ≤ 17592186044416) : Ev (fun k => spec_l1AllRunes.f k l) (l.all isR && decide (l.length ≤ 1000)) :=
  Ev.congr (fun k => by unfold spec_l1AllRunes.f; rfl) (by simpa using specAllRunes_l l hl l.length 0 (by omega))

theorem goodRuneV_isR (r : Int) : goodRuneV r = isR r := by
  unfold goodRuneV isR inB
  rfl

theorem areRunesV_eq (l : List Int) (m : Int) : areRunesV l m = (l.all isR && decide ((l.length : Int) ≤ m)) := by
  unfold areRunesV
  have e : (!l.any badRuneV) = l.all isR := by
    rw [List.not_any_eq_all_not]
    congr 1
    funext x
    unfold badRuneV
    rw [Bool.not_not, goodRuneV_isR]
  rw [e]
  by_cases h : (l.length : Int) ≤ m
  · simp [h]
  · simp [h]

/-- What a rune is made of. -/
def splitV (a : Int) : List Int :=
  if inB 57344 57759 a = true then [if (a - 57344) / 8 < 26 then 65 + (a - 57344) / 8 else 71 + (a - 57344) / 8, 768 + (a - 57344) % 8]
  else if inB 44032 55203 a = true then [4352 + (a - 44032) / 588, 4449 + (a - 44032) % 588 / 28] ++ (if (a - 44032) % 28 > 0 then [4519 + (a - 44032) % 28] else [])
  else [a]

theorem tdv (a b : Int) (h : 0 ≤ a) : Int.tdiv a b = a / b := Int.tdiv_eq_ediv_of_nonneg h
theorem tmd (a b : Int) (h : 0 ≤ a) : Int.tmod a b = a % b := Int.tmod_eq_emod_of_nonneg h

theorem split_s (a : Int) : spec_l3Split.f a = some (splitV a) := by
  unfold spec_l3Split.f splitV
  rw [in_s, in_s]
  simp only [Option.bind_some]
  cases h1 : inB 57344 57759 a with
  | true =>
    have h := (inB_iff _ _ _).1 h1
    have w1 : wrap64 (a - 57344) = a - 57344 := wr _ (by omega) (by omega)
    simp only [if_true, w1]
    rw [tdv (a - 57344) 8 (by omega), tmd (a - 57344) 8 (by omega), wr ((a - 57344) / 8) (by omega) (by omega), wr (768 + (a - 57344) % 8) (by omega) (by omega), wr (97 + (a - 57344) / 8) (by omega) (by omega), wr (97 + (a - 57344) / 8 - 26) (by omega) (by omega), wr (65 + (a - 57344) / 8) (by omega) (by omega)]
    by_cases h2 : (a - 57344) / 8 < 26
    · rw [if_neg (by omega), if_pos h2]
    · rw [if_pos (by omega), if_neg h2]
      congr 2
      omega
  | false =>
    simp only [Bool.false_eq_true, if_false]
    cases h3 : inB 44032 55203 a with
    | true =>
      have h := (inB_iff _ _ _).1 h3
      have w1 : wrap64 (a - 44032) = a - 44032 := wr _ (by omega) (by omega)
      simp only [if_true, w1]
      rw [tdv (a - 44032) 588 (by omega), tmd (a - 44032) 588 (by omega), tmd (a - 44032) 28 (by omega), tdv ((a - 44032) % 588) 28 (by omega), wr ((a - 44032) / 588) (by omega) (by omega), wr ((a - 44032) % 588 / 28) (by omega) (by omega), wr (4352 + (a - 44032) / 588) (by omega) (by omega), wr (4449 + (a - 44032) % 588 / 28) (by omega) (by omega), wr (4519 + (a - 44032) % 28) (by omega) (by omega)]
      by_cases h2 : (a - 44032) % 28 > 0
      · rw [if_pos h2]; simp [h2]
      · rw [if_neg h2]; simp [h2]
    | false => simp

theorem split_i (a : Int) : impl_splitRune.f a = some (splitV a) := by
  unfold impl_splitRune.f splitV impl_letterAt.f
  rw [in_i, in_i]
  simp only [Option.bind_some]
  cases h1 : inB 57344 57759 a with
  | true =>
    have h := (inB_iff _ _ _).1 h1
    have w1 : wrap64 (a - 57344) = a - 57344 := wr _ (by omega) (by omega)
    simp only [if_true, w1]
    rw [tdv (a - 57344) 8 (by omega), tmd (a - 57344) 8 (by omega), wr ((a - 57344) / 8) (by omega) (by omega), wr (768 + (a - 57344) % 8) (by omega) (by omega), wr (97 + (a - 57344) / 8) (by omega) (by omega), wr (97 + (a - 57344) / 8 - 26) (by omega) (by omega), wr (65 + (a - 57344) / 8) (by omega) (by omega)]
    by_cases h2 : (a - 57344) / 8 < 26
    · rw [if_pos h2, if_pos h2]; simp
    · rw [if_neg h2, if_neg h2]
      simp only [Option.bind_some]
      congr 2
      omega
  | false =>
    simp only [Bool.false_eq_true, if_false]
    cases h3 : inB 44032 55203 a with
    | true =>
      have h := (inB_iff _ _ _).1 h3
      have w1 : wrap64 (a - 44032) = a - 44032 := wr _ (by omega) (by omega)
      simp only [if_true, w1]
      rw [tdv (a - 44032) 588 (by omega), tmd (a - 44032) 588 (by omega), tmd (a - 44032) 28 (by omega), tdv ((a - 44032) % 588) 28 (by omega), wr ((a - 44032) / 588) (by omega) (by omega), wr ((a - 44032) % 588 / 28) (by omega) (by omega), wr (4352 + (a - 44032) / 588) (by omega) (by omega), wr (4449 + (a - 44032) % 588 / 28) (by omega) (by omega), wr (4519 + (a - 44032) % 28) (by omega) (by omega)]
      by_cases h2 : (a - 44032) % 28 > 0
      · rw [if_pos h2]; simp [h2]
      · rw [if_neg h2]; simp [h2]
    | false => simp

theorem splitV_length (a : Int) : (splitV a).length ≤ 3 := by
  unfold splitV
  split
  · simp
  · split
    · split <;> simp
    · simp

def splitsV (l : List Int) : List Int := l.flatMap splitV
theorem splitsV_length (l : List Int) : (splitsV l).length ≤ 3 * l.length := by
  induction l with
  | nil => simp [splitsV]
  | cons x r ih =>
    have := splitV_length x
    unfold splitsV at ih ⊢
    rw [List.flatMap_cons, List.length_append, List.length_cons]
    omega

theorem specSplits_l (l : List Int) (hl : l.length ≤ 1000000) : ∀ (d j : Nat) (acc : List Int), j + d = l.length → acc.length ≤ 3 * j → Ev (fun k => spec_l3SplitAll.l0 k acc l (l.length : Int) (j : Int)) (acc ++ splitsV (l.drop j)) := by
  intro d
  induction d with
  | zero =>
    intro j acc hj ha
    refine Ev.step (f := fun _ => some (acc ++ splitsV (l.drop j))) (fun k => ?_) (Ev.now _)
    simp only [spec_l3SplitAll.l0]
    rw [if_neg (by omega), List.drop_of_length_le (by omega)]
    simp [splitsV]
  | succ d ih =>
    intro j acc hj ha
    have e1 : wrap64 ((j : Int) + 1) = ((j + 1 : Nat) : Int) := by rw [wr _ (by omega) (by omega)]; omega
    have h1 := splitV_length (l[j]'(by omega))
    have hd : acc ++ splitsV (l.drop j) = (acc ++ splitV (l[j]'(by omega))) ++ splitsV (l.drop (j + 1)) := by rw [drop_at l j (by omega), List.append_assoc]; rfl
    rw [hd]
    refine Ev.step (f := fun k => spec_l3SplitAll.l0 k (acc ++ splitV (l[j]'(by omega))) l (l.length : Int) ((j + 1 : Nat) : Int)) (fun k => ?_) (ih (j + 1) (acc ++ splitV (l[j]'(by omega))) (by omega) (by rw [List.length_append]; omega))
    simp only [spec_l3SplitAll.l0]
    rw [if_pos (by omega), if_pos (by omega), if_pos (by omega), rd_at l j (by omega), split_s, Option.bind_some, if_pos (by omega), e1]
theorem implSplits_l (l : List Int) (hl : l.length ≤ 1000000) : ∀ (d j : Nat) (acc : List Int), j + d = l.length → acc.length ≤ 3 * j → Ev (fun k => impl_splitAll.l0 k acc l (l.length : Int) (j : Int)) (acc ++ splitsV (l.drop j)) := by
  intro d
  induction d with
  | zero =>
    intro j acc hj ha
    refine Ev.step (f := fun _ => some (acc ++ splitsV (l.drop j))) (fun k => ?_) (Ev.now _)
    simp only [impl_splitAll.l0]
    rw [if_neg (by omega), List.drop_of_length_le (by omega)]
    simp [splitsV]
  | succ d ih =>
    intro j acc hj ha
    have e1 : wrap64 ((j : Int) + 1) = ((j + 1 : Nat) : Int) := by rw [wr _ (by omega) (by omega)]; omega
    have h1 := splitV_length (l[j]'(by omega))
    have hd : acc ++ splitsV (l.drop j) = (acc ++ splitV (l[j]'(by omega))) ++ splitsV (l.drop (j + 1)) := by rw [drop_at l j (by omega), List.append_assoc]; rfl
    rw [hd]
    refine Ev.step (f := fun k => impl_splitAll.l0 k (acc ++ splitV (l[j]'(by omega))) l (l.length : Int) ((j + 1 : Nat) : Int)) (fun k => ?_) (ih (j + 1) (acc ++ splitV (l[j]'(by omega))) (by omega) (by rw [List.length_append]; omega))
    simp only [impl_splitAll.l0]
    rw [if_pos (by omega), if_pos (by omega), if_pos (by omega), rd_at l j (by omega), split_i, Option.bind_some, if_pos (by omega), e1]
theorem specSplits_ev (l : List Int) (hl : l.length ≤ 1000000) : Ev (fun k => spec_l3SplitAll.f k l) (splitsV l) :=
  Ev.congr (fun k => by unfold spec_l3SplitAll.f; rfl) (by simpa using specSplits_l l hl l.length 0 [] (by omega) (by simp))
theorem implSplits_ev (l : List Int) (hl : l.length ≤ 1000000) : Ev (fun k => impl_splitAll.f k l) (splitsV l) :=
  Ev.congr (fun k => by unfold impl_splitAll.f; rfl) (by simpa using implSplits_l l hl l.length 0 [] (by omega) (by simp))
def l3L (l : List Int) : Bool := l.all isR && decide (l.length ≤ 300)
theorem l3List_ev (l : List Int) (hl : l.length ≤ 17592186044416) : Ev (fun k => spec_l3List.f k l) (l3L l) := by
  unfold spec_l3List.f l3L
  by_cases h : l.length ≤ 300
  · refine Ev.congr (fun k => by rw [if_pos (by omega)]) (Ev.bind (specAllRunes_ev l hl) ?_)
    rw [show decide (l.length ≤ 1000) = true from decide_eq_true (by omega), show decide (l.length ≤ 300) = true from decide_eq_true h]
    exact Ev.now _
  · refine Ev.congr (fun k => by rw [if_neg (by omega)]) ?_
    rw [show decide (l.length ≤ 300) = false from decide_eq_false h, Bool.and_false]
    exact Ev.now _
theorem l3L_are (l : List Int) : areRunesV l 300 = l3L l := by
  rw [areRunesV_eq]
  unfold l3L
  congr 1
  rw [Bool.eq_iff_iff, decide_eq_true_eq, decide_eq_true_eq]
  omega
def l3Made (l : List Int) : List Int × Bool := if l.length > 300 then ([], false) else (l, true)
theorem l3Made_s (l : List Int) : spec_l3Made.f l = some (l3Made l) := by
  unfold spec_l3Made.f l3Made
  by_cases h : l.length > 300
  · rw [if_pos (by omega), if_pos h]
  · rw [if_neg (by omega), if_neg h]
theorem l3Made_length (l : List Int) : (l3Made l).1.length ≤ 300 := by
  unfold l3Made
  by_cases h : l.length > 300
  · rw [if_pos h]; simp
  · rw [if_neg h]; show l.length ≤ 300; omega
/-- SplitAll. -/
def splitAllR (l : List Int) : List Int × Bool := if l3L l = true then l3Made (splitsV l) else ([], false)
theorem splitAllR_length (l : List Int) : (splitAllR l).1.length ≤ 300 := by
  unfold splitAllR
  split
  · exact l3Made_length _
  · simp
theorem splitAllR_spec (l : List Int) (hl : l.length ≤ 17592186044416) : Ev (fun k => spec_SplitAll.f k l) (splitAllR l) := by
  unfold spec_SplitAll.f splitAllR
  refine Ev.bind (l3List_ev l hl) ?_
  cases h : l3L l with
  | false => exact Ev.congr (fun k => by rw [if_neg (by simp)]) (by simpa using Ev.now (([] : List Int), false))
  | true =>
    have hn : l.length ≤ 300 := by
      unfold l3L at h
      rw [Bool.and_eq_true, decide_eq_true_eq] at h
      exact h.2
    refine Ev.congr (fun k => by rw [if_pos rfl]) (Ev.bind (specSplits_ev l (by omega)) ?_)
    rw [l3Made_s]
    exact Ev.bind (Ev.now _) (by simpa using Ev.now (l3Made (splitsV l)))
theorem splitAllR_impl (l : List Int) (hl : l.length ≤ 17592186044416) : Ev (fun k => impl_SplitAll.f k l) (splitAllR l) := by
  unfold impl_SplitAll.f impl_formed.f splitAllR
  rw [l3L_are]
  simp only [if_true]
  have fin : ∀ (g : Nat → Option (List Int × Bool)) r, Ev g r → Ev (fun k => (g k).bind fun bt => some (bt.1, bt.2)) r := fun g r h => Ev.bind h (Ev.now _)
  refine fin _ _ ?_
  cases h : l3L l with
  | false => exact Ev.congr (fun k => by rw [if_neg (by simp)]) (by simpa using Ev.now (([] : List Int), false))
  | true =>
    have hn : l.length ≤ 300 := by
      unfold l3L at h
      rw [Bool.and_eq_true, decide_eq_true_eq] at h
      exact h.2
    refine Ev.congr (fun k => by rw [if_pos rfl]) (Ev.bind (implSplits_ev l (by omega)) ?_)
    rw [if_pos rfl]
    unfold l3Made
    by_cases c : (splitsV l).length > 300
    · rw [if_pos c]; exact Ev.congr (fun k => by rw [if_pos (by omega)]) (Ev.now _)
    · rw [if_neg c]; exact Ev.congr (fun k => by rw [if_neg (by omega)]) (Ev.now _)
theorem FnExactSplitAll : laws_FnExactSplitAll.Pure := by
  intro l hm hs _
  refine Ev.rounds (r := true) ?_
  unfold laws_FnExactSplitAll.f
  by_cases h : (l.length : Int) > 1048576
  · exact Ev.congr (fun k => by rw [if_pos h]) (Ev.now true)
  · refine Ev.congr (fun k => by rw [if_neg h]) ?_
    have hl : l.length ≤ 17592186044416 := by omega
    have hx := splitAllR_length l
    have cs := splitAllR_spec l hl
    have ci := splitAllR_impl l hl
    generalize splitAllR l = q at hx cs ci
    obtain ⟨x, b⟩ := q
    replace hx : x.length ≤ 300 := hx
    have j2 : Ev (fun k => laws_FnExactSplitAll.j2 k (iota 1 x.length) (1 + (x.length : Int)) false) true := by
      refine Ev.step (fun k => by simp only [laws_FnExactSplitAll.j2]; rw [if_neg (by simp)]) ?_
      refine Ev.bind (heldIntS_ev 1 x.length (by omega) (by omega)) ?_
      exact Ev.congr (fun k => by rw [if_neg (by omega), if_pos rfl]) (Ev.now true)
    have j1 : Ev (fun k => laws_FnExactSplitAll.j1 k l x b x false) true := by
      refine Ev.step (fun k => by simp only [laws_FnExactSplitAll.j1]; rw [if_neg (by simp)]) ?_
      refine Ev.bind (markIntS_ev x 1 (by omega) (by omega)) (Ev.bind (heldIntS_ev 1 x.length (by omega) (by omega)) ?_)
      refine Ev.congr (fun k => by rw [if_neg (by omega), if_pos rfl]) (Ev.bind (toIntS_ev l hl) (Ev.bind ci (Ev.bind (eqIntS_ev x x (by omega)) ?_)))
      simp only [decide_true, if_true, bne_self_eq_false]
      exact j2
    have j0 : Ev (fun k => laws_FnExactSplitAll.j0 k l x b l x b false) true := by
      refine Ev.step (fun k => by simp only [laws_FnExactSplitAll.j0]; rw [if_neg (by simp)]) ?_
      refine Ev.bind (toIntS_ev l hl) (Ev.bind (eqIntS_ev l l hl) ?_)
      simp only [decide_true, if_true]
      refine Ev.bind (markIntS_ev l 1 (by omega) (by omega)) ?_
      refine Ev.congr (fun k => by rw [if_neg (by omega)]) (Ev.bind (eqIntS_ev x x (by omega)) ?_)
      simp only [decide_true, if_true, bne_self_eq_false]
      exact j1
    refine Ev.bind (toIntS_ev l hl) (Ev.bind cs (Ev.bind (toIntS_ev l hl) (Ev.bind ci (Ev.bind (eqIntS_ev x x (by omega)) ?_))))
    simp only [decide_true, if_true, bne_self_eq_false]
    exact j0

end Go.Proofs.Ytaeaeejfaffbpaa.Pure
