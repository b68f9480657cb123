/-
  For every input the law FnExactSplitRune returns true; no condition.
-/
import Derived.Test.YtepeimabodnmiaaPFnExactSplitRunex2
namespace Go.Proofs.Ytepeimabodnmiaa.Pure
open Go.RowKit Go.Proofs.Ytepeimabodnmiaa.PFnExactSplitRune Go.Proofs.YtepeimabodnmiaaW.PrintWords Go.Proofs.YtepeimabodnmiaaW.PrintLast
set_option linter.unusedSimpArgs false
set_option linter.unusedVariables false
theorem wr (i : Int) (h0 : -9223372036854775808 ≤ i) (h1 : i ≤ 9223372036854775807) : wrap64 i = i := by unfold wrap64; omega

theorem rd_nat (l : List Int) (j : Nat) : rd l (j : Int) = l.getD j 0 := by unfold rd; simp

theorem getD_at (l : List Int) (j : Nat) (h : j < l.length) : l.getD j 0 = l[j] := by simp [List.getD_eq_getElem?_getD, h]

theorem rd_at (l : List Int) (j : Nat) (h : j < l.length) : rd l (j : Int) = l[j] := by rw [rd_nat, getD_at l j h]

theorem drop_at (l : List Int) (j : Nat) (h : j < l.length) : l.drop j = l[j] :: l.drop (j + 1) := List.drop_eq_getElem_cons h

theorem eqIntS_l (a b : List Int) (hab : a.length = b.length) (hl : a.length ≤ 17592186044416) : ∀ (d j : Nat), j + d = a.length → a.take j = b.take j → Ev (fun k => laws_eqIntS.l0 k a b (j : Int)) (decide (a = b)) := by
  intro d
  induction d with
  | zero =>
    intro j hj ht
    refine Ev.step (f := fun _ => some (decide (a = b))) (fun k => ?_) (Ev.now _)
    simp only [laws_eqIntS.l0]
    rw [if_neg (by omega)]
    rw [List.take_of_length_le (by omega), List.take_of_length_le (by omega)] at ht
    simp [ht]
  | succ d ih =>
    intro j hj ht
    by_cases e : a[j]'(by omega) = b[j]'(by omega)
    · refine Ev.step (f := fun k => laws_eqIntS.l0 k a b ((j + 1 : Nat) : Int)) (fun k => ?_) (ih (j + 1) (by omega) ?_)
      · simp only [laws_eqIntS.l0]
        rw [if_pos (by omega), if_pos (by omega), if_pos (by omega), rd_at a j (by omega), rd_at b j (by omega), if_pos e, wr _ (by omega) (by omega)]
        simp
      · rw [List.take_succ_eq_append_getElem (by omega), List.take_succ_eq_append_getElem (by omega), ht, e]
    · refine Ev.step (f := fun _ => some (decide (a = b))) (fun k => ?_) (Ev.now _)
      simp only [laws_eqIntS.l0]
      rw [if_pos (by omega), if_pos (by omega), if_pos (by omega), rd_at a j (by omega), rd_at b j (by omega), if_neg e]
      have : ¬ a = b := fun h => e (by subst h; rfl)
      simp [this]

theorem eqIntS_ev (a b : List Int) (hl : a.length ≤ 17592186044416) : Ev (fun k => laws_eqIntS.f k a b) (decide (a = b)) := by
  by_cases h : a.length = b.length
  · refine Ev.congr (f := fun k => laws_eqIntS.l0 k a b ((0 : Nat) : Int)) (fun k => ?_) (eqIntS_l a b h hl a.length 0 (by omega) (by simp))
    unfold laws_eqIntS.f
    rw [if_pos (by omega)]
    simp
  · refine Ev.congr (f := fun _ => some (decide (a = b))) (fun k => ?_) (Ev.now _)
    unfold laws_eqIntS.f
    rw [if_neg (by omega)]
    have : ¬ a = b := fun e => h (by rw [e])
    simp [this]

/-- Within bounds. -/
def inB (lo hi n : Int) : Bool := decide (lo ≤ n ∧ n ≤ hi)
theorem inB_iff (lo hi n : Int) : inB lo hi n = true ↔ lo ≤ n ∧ n ≤ hi := by simp [inB]

theorem in_s (a b c : Int) : spec_l1In.f a b c = some (inB b c a) := by
  unfold spec_l1In.f inB
  by_cases h : a ≥ b
  · rw [if_pos h]; simp [show b ≤ a from h]
  · rw [if_neg h]; simp [show ¬ b ≤ a from h]

theorem in_i (a b c : Int) : impl_inRange.f a b c = some (inB b c a) := by
  unfold impl_inRange.f inB
  by_cases h : b ≤ a
  · rw [if_pos h]; simp [h]
  · rw [if_neg h]; simp [h]

def isR (a : Int) : Bool := inB 0 1114111 a && !inB 55296 57343 a
theorem gr_s (a : Int) : spec_GoodRune.f a = some (isR a) := by
  unfold spec_GoodRune.f isR
  rw [in_s, in_s]
  simp only [Option.bind_some]
  cases inB 0 1114111 a <;> simp

theorem gr_i (a : Int) : impl_GoodRune.f a = some (isR a) := by
  unfold impl_GoodRune.f isR
  rw [in_i, in_i]
  simp only [Option.bind_some]
  cases inB 0 1114111 a <;> simp

def iota (m : Int) (n : Nat) : List Int := (List.range n).map fun (i : Nat) => m + (i : Int)
theorem iota_length (m : Int) (n : Nat) : (iota m n).length = n := by simp [iota]
theorem iota_get (m : Int) (n i : Nat) (h : i < n) : (iota m n).getD i 0 = m + (i : Int) := by simp [iota, List.getD_eq_getElem?_getD, h]

theorem markIntS_l (m : Int) (n : Nat) (hm : 0 ≤ m) (hn : m + (n : Int) ≤ 4611686018427387904) : ∀ (d j : Nat) (o : List Int), j + d = n → o.length = n → (∀ i, i < j → o.getD i 0 = m + (i : Int)) → Ev (fun k => laws_markIntS.l0 k o (m + (j : Int)) (j : Int)) (m + (n : Int), iota m n) := by
  intro d
  induction d with
  | zero =>
    intro j o hj ho he
    refine Ev.step (f := fun _ => some (m + (n : Int), iota m n)) (fun k => ?_) (Ev.now _)
    simp only [laws_markIntS.l0]
    rw [if_neg (by omega)]
    have e : o = iota m n := by
      refine List.ext_getElem (by rw [iota_length]; exact ho) fun i h1 h2 => ?_
      have h3 := he i (by omega)
      rw [← iota_get m n i (by omega), getD_at o i h1, getD_at _ i h2] at h3
      exact h3
    rw [e, show j = n from by omega]
  | succ d ih =>
    intro j o hj ho he
    refine Ev.step (f := fun k => laws_markIntS.l0 k (o.set j (m + (j : Int))) (m + ((j + 1 : Nat) : Int)) ((j + 1 : Nat) : Int)) (fun k => ?_) (ih (j + 1) _ (by omega) (by rw [List.length_set]; exact ho) fun i hi => ?_)
    · simp only [laws_markIntS.l0]
      rw [if_pos (by omega), if_pos (by omega), wr ((j : Int) + 1) (by omega) (by omega), wr (m + (j : Int) + 1) (by omega) (by omega)]
      simp [Int.add_assoc]
    · by_cases e : i = j
      · subst e
        rw [getD_at _ _ (by rw [List.length_set]; omega)]
        simp
      · rw [← he i (by omega)]
        simp [List.getD_eq_getElem?_getD, List.getElem?_set, Ne.symm e]

theorem markIntS_ev (l : List Int) (m : Int) (hm : 0 ≤ m) (hn : m + (l.length : Int) ≤ 4611686018427387904) : Ev (fun k => laws_markIntS.f k l m) (m + (l.length : Int), iota m l.length) :=
  Ev.congr (fun k => by unfold laws_markIntS.f; simp) (markIntS_l m l.length hm hn l.length 0 l (by omega) rfl (fun i hi => by omega))

theorem heldIntS_l (m : Int) (n : Nat) (hm : 0 ≤ m) (hn : m + (n : Int) ≤ 4611686018427387904) : ∀ (d j : Nat), j + d = n → Ev (fun k => laws_heldIntS.l0 k (iota m n) (m + (j : Int)) (j : Int)) (m + (n : Int)) := by
  intro d
  induction d with
  | zero =>
    intro j hj
    refine Ev.step (f := fun _ => some (m + (n : Int))) (fun k => ?_) (Ev.now _)
    simp only [laws_heldIntS.l0]
    rw [if_neg (by rw [iota_length]; omega), show j = n from by omega]
  | succ d ih =>
    intro j hj
    refine Ev.step (f := fun k => laws_heldIntS.l0 k (iota m n) (m + ((j + 1 : Nat) : Int)) ((j + 1 : Nat) : Int)) (fun k => ?_) (ih (j + 1) (by omega))
    simp only [laws_heldIntS.l0]
    rw [if_pos (by rw [iota_length]; omega), if_pos (by omega), rd_nat, iota_get m n j (by omega), if_pos rfl, wr ((j : Int) + 1) (by omega) (by omega), wr (m + (j : Int) + 1) (by omega) (by omega)]
    simp [Int.add_assoc]

theorem heldIntS_ev (m : Int) (n : Nat) (hm : 0 ≤ m) (hn : m + (n : Int) ≤ 4611686018427387904) : Ev (fun k => laws_heldIntS.f k (iota m n) m) (m + (n : Int)) :=
  Ev.congr (fun k => by unfold laws_heldIntS.f; simp) (heldIntS_l m n hm hn n 0 (by omega))

/-- What a rune is made of. -/
def splitV (a : Int) : List Int :=
  if inB 57344 57759 a = true then [if (a - 57344) / 8 < 26 then 65 + (a - 57344) / 8 else 71 + (a - 57344) / 8, 768 + (a - 57344) % 8]
  else if inB 44032 55203 a = true then [4352 + (a - 44032) / 588, 4449 + (a - 44032) % 588 / 28] ++ (if (a - 44032) % 28 > 0 then [4519 + (a - 44032) % 28] else [])
  else [a]

theorem tdv (a b : Int) (h : 0 ≤ a) : Int.tdiv a b = a / b := Int.tdiv_eq_ediv_of_nonneg h
theorem tmd (a b : Int) (h : 0 ≤ a) : Int.tmod a b = a % b := Int.tmod_eq_emod_of_nonneg h

theorem split_s (a : Int) : spec_l3Split.f a = some (splitV a) := by
  unfold spec_l3Split.f splitV
  rw [in_s, in_s]
  simp only [Option.bind_some]
  cases h1 : inB 57344 57759 a with
  | true =>
    have h := (inB_iff _ _ _).1 h1
    have w1 : wrap64 (a - 57344) = a - 57344 := wr _ (by omega) (by omega)
    simp only [if_true, w1]
    rw [tdv (a - 57344) 8 (by omega), tmd (a - 57344) 8 (by omega), wr ((a - 57344) / 8) (by omega) (by omega), wr (768 + (a - 57344) % 8) (by omega) (by omega), wr (97 + (a - 57344) / 8) (by omega) (by omega), wr (97 + (a - 57344) / 8 - 26) (by omega) (by omega), wr (65 + (a - 57344) / 8) (by omega) (by omega)]
    by_cases h2 : (a - 57344) / 8 < 26
    · rw [if_neg (by omega), if_pos h2]
    · rw [if_pos (by omega), if_neg h2]
      congr 2
      omega
  | false =>
    simp only [Bool.false_eq_true, if_false]
    cases h3 : inB 44032 55203 a with
    | true =>
      have h := (inB_iff _ _ _).1 h3
      have w1 : wrap64 (a - 44032) = a - 44032 := wr _ (by omega) (by omega)
      simp only [if_true, w1]
      rw [tdv (a - 44032) 588 (by omega), tmd (a - 44032) 588 (by omega), tmd (a - 44032) 28 (by omega), tdv ((a - 44032) % 588) 28 (by omega), wr ((a - 44032) / 588) (by omega) (by omega), wr ((a - 44032) % 588 / 28) (by omega) (by omega), wr (4352 + (a - 44032) / 588) (by omega) (by omega), wr (4449 + (a - 44032) % 588 / 28) (by omega) (by omega), wr (4519 + (a - 44032) % 28) (by omega) (by omega)]
      by_cases h2 : (a - 44032) % 28 > 0
      · rw [if_pos h2]; simp [h2]
      · rw [if_neg h2]; simp [h2]
    | false => simp

theorem split_i (a : Int) : impl_splitRune.f a = some (splitV a) := by
  unfold impl_splitRune.f splitV impl_letterAt.f
  rw [in_i, in_i]
  simp only [Option.bind_some]
  cases h1 : inB 57344 57759 a with
  | true =>
    have h := (inB_iff _ _ _).1 h1
    have w1 : wrap64 (a - 57344) = a - 57344 := wr _ (by omega) (by omega)
    simp only [if_true, w1]
    rw [tdv (a - 57344) 8 (by omega), tmd (a - 57344) 8 (by omega), wr ((a - 57344) / 8) (by omega) (by omega), wr (768 + (a - 57344) % 8) (by omega) (by omega), wr (97 + (a - 57344) / 8) (by omega) (by omega), wr (97 + (a - 57344) / 8 - 26) (by omega) (by omega), wr (65 + (a - 57344) / 8) (by omega) (by omega)]
    by_cases h2 : (a - 57344) / 8 < 26
    · rw [if_pos h2, if_pos h2]; simp
    · rw [if_neg h2, if_neg h2]
      simp only [Option.bind_some]
      congr 2
      omega
  | false =>
    simp only [Bool.false_eq_true, if_false]
    cases h3 : inB 44032 55203 a with
    | true =>
      have h := (inB_iff _ _ _).1 h3
      have w1 : wrap64 (a - 44032) = a - 44032 := wr _ (by omega) (by omega)
      simp only [if_true, w1]
      rw [tdv (a - 44032) 588 (by omega), tmd (a - 44032) 588 (by omega), tmd (a - 44032) 28 (by omega), tdv ((a - 44032) % 588) 28 (by omega), wr ((a - 44032) / 588) (by omega) (by omega), wr ((a - 44032) % 588 / 28) (by omega) (by omega), wr (4352 + (a - 44032) / 588) (by omega) (by omega), wr (4449 + (a - 44032) % 588 / 28) (by omega) (by omega), wr (4519 + (a - 44032) % 28) (by omega) (by omega)]
      by_cases h2 : (a - 44032) % 28 > 0
      · rw [if_pos h2]; simp [h2]
      · rw [if_neg h2]; simp [h2]
    | false => simp

theorem splitV_length (a : Int) : (splitV a).length ≤ 3 := by
  unfold splitV
  split
  · simp
  · split
    · split <;> simp
    · simp

theorem FnExactSplitRune : laws_FnExactSplitRune.Pure := by
  intro a _
  refine Ev.rounds (r := true) ?_
  obtain ⟨x, b, hx, hs, hi⟩ : ∃ (x : List Int) (b : Bool), x.length ≤ 3 ∧ spec_SplitRune.f a = some (x, b) ∧ impl_SplitRune.f a = some (x, b) := by
    unfold spec_SplitRune.f impl_SplitRune.f
    rw [gr_s, gr_i, split_s, split_i]
    cases isR a with
    | true => exact ⟨_, _, splitV_length a, rfl, rfl⟩
    | false => exact ⟨[], false, by simp, rfl, rfl⟩
  have j1 : Ev (fun k => laws_FnExactSplitRune.j1 k (iota 1 x.length) (1 + (x.length : Int)) false) true := by
    refine Ev.step (fun k => by simp only [laws_FnExactSplitRune.j1]; rw [if_neg (by simp)]) ?_
    refine Ev.bind (heldIntS_ev 1 x.length (by omega) (by omega)) ?_
    exact Ev.congr (fun k => by rw [if_neg (by omega), if_pos rfl]) (Ev.now true)
  have j0 : Ev (fun k => laws_FnExactSplitRune.j0 k a x b x false) true := by
    refine Ev.step (fun k => by simp only [laws_FnExactSplitRune.j0]; rw [if_neg (by simp)]) ?_
    refine Ev.bind (markIntS_ev x 1 (by omega) (by omega)) (Ev.bind (heldIntS_ev 1 x.length (by omega) (by omega)) ?_)
    refine Ev.congr (f := fun k => (laws_eqIntS.f k x x).bind fun t => if t = true then laws_FnExactSplitRune.j1 k (iota 1 x.length) (1 + (x.length : Int)) false else laws_FnExactSplitRune.j1 k (iota 1 x.length) (1 + (x.length : Int)) true) (fun k => by rw [if_neg (by omega), if_pos rfl, hi]; simp only [Option.bind_some, bne_self_eq_false]) ?_
    refine Ev.bind (eqIntS_ev x x (by omega)) ?_
    simp only [decide_true, if_true]
    exact j1
  unfold laws_FnExactSplitRune.f
  rw [hs, hi]
  simp only [Option.bind_some, bne_self_eq_false]
  refine Ev.bind (eqIntS_ev x x (by omega)) ?_
  simp only [decide_true, if_true]
  exact j0

end Go.Proofs.Ytepeimabodnmiaa.Pure
