/-
  For every input the law FnExactGoodNfa returns true; no condition.
-/
import Derived.Test.YtaeaeejfaffbpaaHFnExactGoodNfax9
namespace Go.Proofs.Ytaeaeejfaffbpaa.Pure
open Go.RowKit Go.Proofs.Ytaeaeejfaffbpaa.HFnExactGoodNfa Go.Proofs.YtaeaeejfaffbpaaW.PrintWords Go.Proofs.YtaeaeejfaffbpaaW.PrintLast
set_option linter.unusedSimpArgs false
set_option linter.unusedVariables false
theorem wr (i : Int) (h0 : -9223372036854775808 ≤ i) (h1 : i ≤ 9223372036854775807) : wrap64 i = i := by unfold wrap64; omega

theorem rd_nat (l : List Int) (j : Nat) : rd l (j : Int) = l.getD j 0 := by unfold rd; simp

theorem getD_at (l : List Int) (j : Nat) (h : j < l.length) : l.getD j 0 = l[j] := by simp [List.getD_eq_getElem?_getD, h]

theorem rd_at (l : List Int) (j : Nat) (h : j < l.length) : rd l (j : Int) = l[j] := by rw [rd_nat, getD_at l j h]

theorem drop_at (l : List Int) (j : Nat) (h : j < l.length) : l.drop j = l[j] :: l.drop (j + 1) := List.drop_eq_getElem_cons h

theorem toIntS_l (l : List Int) (hl : l.length ≤ 17592186044416) : ∀ (d j : Nat) (o : List Int), j + d = l.length → o.length = l.length → (∀ i, i < j → o.getD i 0 = l.getD i 0) → Ev (fun k => laws_toIntS.l0 k l o (j : Int)) l := by
  intro d
  induction d with
  | zero =>
    intro j o hj ho he
    refine Ev.step (f := fun _ => some l) (fun k => ?_) (Ev.now l)
    simp only [laws_toIntS.l0]
    rw [if_neg (by omega)]
    congr 1
    refine List.ext_getElem (by omega) fun i h1 h2 => ?_
    have := he i (by omega)
    rwa [getD_at o i h1, getD_at l i h2] at this
  | succ d ih =>
    intro j o hj ho he
    refine Ev.step (f := fun k => laws_toIntS.l0 k l (o.set j (l.getD j 0)) ((j + 1 : Nat) : Int)) (fun k => ?_) (ih (j + 1) _ (by omega) (by rw [List.length_set]; exact ho) fun i hi => ?_)
    · simp only [laws_toIntS.l0]
      rw [if_pos (by omega), if_pos (by omega), if_pos (by omega), wr _ (by omega) (by omega), rd_nat]
      simp
    · by_cases e : i = j
      · subst e
        rw [getD_at _ _ (by rw [List.length_set]; omega)]
        simp
      · rw [← he i (by omega)]
        simp [List.getD_eq_getElem?_getD, List.getElem?_set, Ne.symm e]

theorem toIntS_ev (l : List Int) (hl : l.length ≤ 17592186044416) : Ev (fun k => laws_toIntS.f k l) l := by
  refine Ev.congr (f := fun k => laws_toIntS.l0 k l (List.replicate l.length 0) ((0 : Nat) : Int)) (fun k => ?_) (toIntS_l l hl l.length 0 _ (by omega) (by simp) (fun i hi => by omega))
  unfold laws_toIntS.f
  rw [if_pos (by omega), if_pos (by omega)]
  simp

theorem eqIntS_l (a b : List Int) (hab : a.length = b.length) (hl : a.length ≤ 17592186044416) : ∀ (d j : Nat), j + d = a.length → a.take j = b.take j → Ev (fun k => laws_eqIntS.l0 k a b (j : Int)) (decide (a = b)) := by
  intro d
  induction d with
  | zero =>
    intro j hj ht
    refine Ev.step (f := fun _ => some (decide (a = b))) (fun k => ?_) (Ev.now _)
    simp only [laws_eqIntS.l0]
    rw [if_neg (by omega)]
    rw [List.take_of_length_le (by omega), List.take_of_length_le (by omega)] at ht
    simp [ht]
  | succ d ih =>
    intro j hj ht
    by_cases e : a[j]'(by omega) = b[j]'(by omega)
    · refine Ev.step (f := fun k => laws_eqIntS.l0 k a b ((j + 1 : Nat) : Int)) (fun k => ?_) (ih (j + 1) (by omega) ?_)
      · simp only [laws_eqIntS.l0]
        rw [if_pos (by omega), if_pos (by omega), if_pos (by omega), rd_at a j (by omega), rd_at b j (by omega), if_pos e, wr _ (by omega) (by omega)]
        simp
      · rw [List.take_succ_eq_append_getElem (by omega), List.take_succ_eq_append_getElem (by omega), ht, e]
    · refine Ev.step (f := fun _ => some (decide (a = b))) (fun k => ?_) (Ev.now _)
      simp only [laws_eqIntS.l0]
      rw [if_pos (by omega), if_pos (by omega), if_pos (by omega), rd_at a j (by omega), rd_at b j (by omega), if_neg e]
      have : ¬ a = b := fun h => e (by subst h; rfl)
      simp [this]

theorem eqIntS_ev (a b : List Int) (hl : a.length ≤ 17592186044416) : Ev (fun k => laws_eqIntS.f k a b) (decide (a = b)) := by
  by_cases h : a.length = b.length
  · refine Ev.congr (f := fun k => laws_eqIntS.l0 k a b ((0 : Nat) : Int)) (fun k => ?_) (eqIntS_l a b h hl a.length 0 (by omega) (by simp))
    unfold laws_eqIntS.f
    rw [if_pos (by omega)]
    simp
  · refine Ev.congr (f := fun _ => some (decide (a = b))) (fun k => ?_) (Ev.now _)
    unfold laws_eqIntS.f
    rw [if_neg (by omega)]
    have : ¬ a = b := fun e => h (by rw [e])
    simp [this]

/-- Within bounds. -/
def inB (lo hi n : Int) : Bool := decide (lo ≤ n ∧ n ≤ hi)
theorem inB_iff (lo hi n : Int) : inB lo hi n = true ↔ lo ≤ n ∧ n ≤ hi := by simp [inB]

theorem in_s (a b c : Int) : spec_l1In.f a b c = some (inB b c a) := by
  unfold spec_l1In.f inB
  by_cases h : a ≥ b
  · rw [if_pos h]; simp [show b ≤ a from h]
  · rw [if_neg h]; simp [show ¬ b ≤ a from h]

theorem in_i (a b c : Int) : impl_inRange.f a b c = some (inB b c a) := by
  unfold impl_inRange.f inB
  by_cases h : b ≤ a
  · rw [if_pos h]; simp [h]
  · rw [if_neg h]; simp [h]

theorem l1All_l (lo hi : Int) (l : List Int) (hl : l.length ≤ 17592186044416) : ∀ (d j : Nat), j + d = l.length → Ev (fun k => spec_l1All.l0 k lo hi l (l.length : Int) (j : Int)) ((l.drop j).all (inB lo hi)) := by
  intro d
  induction d with
  | zero =>
    intro j hj
    refine Ev.step (f := fun _ => some ((l.drop j).all (inB lo hi))) (fun k => ?_) (Ev.now _)
    simp only [spec_l1All.l0]
    rw [if_neg (by omega), List.drop_of_length_le (by omega)]
    rfl
  | succ d ih =>
    intro j hj
    cases e : inB lo hi (l[j]'(by omega)) with
    | true =>
      refine Ev.step (f := fun k => spec_l1All.l0 k lo hi l (l.length : Int) ((j + 1 : Nat) : Int)) (fun k => ?_) ?_
      · simp only [spec_l1All.l0]
        rw [if_pos (by omega), if_pos (by omega), if_pos (by omega), rd_at l j (by omega), in_s, wr _ (by omega) (by omega), e]
        simp
      · rw [drop_at l j (by omega), List.all_cons, e, Bool.true_and]
        exact ih (j + 1) (by omega)
    | false =>
      refine Ev.step (f := fun _ => some ((l.drop j).all (inB lo hi))) (fun k => ?_) (Ev.now _)
      simp only [spec_l1All.l0]
      rw [if_pos (by omega), if_pos (by omega), if_pos (by omega), rd_at l j (by omega), in_s, e, drop_at l j (by omega), List.all_cons, e]
      simp

theorem l1All_ev (l : List Int) (hl : l.length ≤ 17592186044416) (lo hi : Int) : Ev (fun k => spec_l1All.f k l lo hi) (l.all (inB lo hi)) :=
  Ev.congr (fun k => by unfold spec_l1All.f; rfl) (l1All_l lo hi l hl l.length 0 (by omega))

/-- A set: pairs, each rising, each two ahead of the last one. -/
def Good : Int → List Int → Bool
  | least, a :: b :: r => decide (least ≤ a) && decide (a ≤ b) && decide (b ≤ 1114111) && Good (b + 2) r
  | _, [] => true
  | _, [_] => false

theorem good_mono (l : List Int) : ∀ (a b : Int), a ≤ b → Good b l = true → Good a l = true := by
  intro a b h hg
  match l with
  | [] => rfl
  | [_] => simp [Good] at hg
  | x :: y :: r =>
    simp only [Good, Bool.and_eq_true, decide_eq_true_eq] at hg ⊢
    exact ⟨⟨⟨by omega, hg.1.1.2⟩, hg.1.2⟩, hg.2⟩

/-- A set, with at most twelve spans. -/
def GoodS (l : List Int) : Bool := Good 0 l && decide (l.length ≤ 24)

theorem good_even (l : List Int) : ∀ a, Good a l = true → l.length % 2 = 0 := by
  match l with
  | [] => intro a _; rfl
  | [_] => intro a h; simp [Good] at h
  | x :: y :: r =>
    intro a h
    simp only [Good, Bool.and_eq_true] at h
    have := good_even r _ h.2
    simp only [List.length_cons]
    omega
termination_by l.length

theorem good_all (l : List Int) : ∀ a, 0 ≤ a → Good a l = true → ∀ x ∈ l, 0 ≤ x ∧ x ≤ 1114111 := by
  match l with
  | [] => intro a _ _ x hx; cases hx
  | [_] => intro a _ h; simp [Good] at h
  | y :: z :: r =>
    intro a ha h x hx
    simp [Good] at h
    simp only [List.mem_cons] at hx
    rcases hx with rfl | rfl | hx
    · omega
    · omega
    · exact good_all r (z + 2) (by omega) h.2 x hx
termination_by l.length

def lst (l : List Int) (j : Nat) : Int := if j = 0 then 0 else l.getD (j - 1) 0 + 2

theorem specSet_l (l : List Int) (hl : l.length ≤ 17592186044416) (hr : ∀ x ∈ l, 0 ≤ x ∧ x ≤ 1114111) : ∀ (d j : Nat), j + 2 * d = l.length → Ev (fun k => spec_GoodSet.l0 k l (j : Int)) (Good (lst l j) (l.drop j)) := by
  intro d
  induction d with
  | zero =>
    intro j hj
    refine Ev.step (f := fun _ => some (Good (lst l j) (l.drop j))) (fun k => ?_) (Ev.now _)
    simp only [spec_GoodSet.l0]
    rw [if_neg (by omega), List.drop_of_length_le (by omega)]
    rfl
  | succ d ih =>
    intro j hj
    have ha : 0 ≤ l[j]'(by omega) ∧ l[j]'(by omega) ≤ 1114111 := hr _ (List.getElem_mem _)
    have hb : 0 ≤ l[j + 1]'(by omega) ∧ l[j + 1]'(by omega) ≤ 1114111 := hr _ (List.getElem_mem _)
    have e1 : wrap64 ((j : Int) + 1) = ((j + 1 : Nat) : Int) := by rw [wr _ (by omega) (by omega)]; omega
    have e2 : wrap64 ((j : Int) + 2) = ((j + 2 : Nat) : Int) := by rw [wr _ (by omega) (by omega)]; omega
    have hd : l.drop j = l[j]'(by omega) :: l[j + 1]'(by omega) :: l.drop (j + 2) := by rw [drop_at l j (by omega), drop_at l (j + 1) (by omega)]
    have hn : lst l (j + 2) = l[j + 1]'(by omega) + 2 := by
      unfold lst
      rw [if_neg (by omega), show j + 2 - 1 = j + 1 from by omega, getD_at l (j + 1) (by omega)]
    have ih' := ih (j + 2) (by omega)
    rw [hn] at ih'
    have hg : Good (lst l j) (l.drop j) = (decide (lst l j ≤ l[j]'(by omega)) && decide (l[j]'(by omega) ≤ l[j + 1]'(by omega)) && decide (l[j + 1]'(by omega) ≤ 1114111) && Good (l[j + 1]'(by omega) + 2) (l.drop (j + 2))) := by
      rw [hd, Good]
    rw [hg]
    by_cases h1 : l[j]'(by omega) > l[j + 1]'(by omega)
    · refine Ev.step (f := fun _ => some false) (fun k => ?_) ?_
      · simp only [spec_GoodSet.l0]
        rw [e1, if_pos (by omega), if_pos (by omega), if_pos (by omega), if_pos (by omega), rd_at l j (by omega), rd_at l (j + 1) (by omega), if_pos h1]
      · rw [show decide (l[j]'(by omega) ≤ l[j + 1]'(by omega)) = false from decide_eq_false (by omega)]
        simpa using Ev.now false
    · rw [show decide (l[j]'(by omega) ≤ l[j + 1]'(by omega)) = true from decide_eq_true (by omega), show decide (l[j + 1]'(by omega) ≤ 1114111) = true from decide_eq_true (by omega)]
      by_cases h0 : j = 0
      · subst h0
        rw [show decide (lst l 0 ≤ l[0]'(by omega)) = true from decide_eq_true (by unfold lst; simp; omega)]
        refine Ev.step (f := fun k => spec_GoodSet.l0 k l ((0 + 2 : Nat) : Int)) (fun k => ?_) (by simpa using ih')
        simp only [spec_GoodSet.l0]
        rw [e1, if_pos (by omega), if_pos (by omega), if_pos (by omega), if_pos (by omega), rd_at l 0 (by omega), rd_at l (0 + 1) (by omega), if_neg h1, if_neg (by omega), e2]
      · have e3 : wrap64 ((j : Int) - 1) = ((j - 1 : Nat) : Int) := by rw [wr _ (by omega) (by omega)]; omega
        have hp : 0 ≤ l[j - 1]'(by omega) ∧ l[j - 1]'(by omega) ≤ 1114111 := hr _ (List.getElem_mem _)
        have hs : lst l j = l[j - 1]'(by omega) + 2 := by unfold lst; rw [if_neg h0, getD_at l (j - 1) (by omega)]
        rw [hs]
        by_cases h2 : l[j]'(by omega) < l[j - 1]'(by omega) + 2
        · refine Ev.step (f := fun _ => some false) (fun k => ?_) ?_
          · simp only [spec_GoodSet.l0]
            rw [e1, if_pos (by omega), if_pos (by omega), if_pos (by omega), if_pos (by omega), rd_at l j (by omega), rd_at l (j + 1) (by omega), if_neg h1, if_pos (by omega), e3, if_pos (by omega), if_pos (by omega), rd_at l (j - 1) (by omega), wr (l[j - 1]'(by omega) + 2) (by omega) (by omega), if_pos h2]
          · rw [show decide (l[j - 1]'(by omega) + 2 ≤ l[j]'(by omega)) = false from decide_eq_false (by omega)]
            simpa using Ev.now false
        · refine Ev.step (f := fun k => spec_GoodSet.l0 k l ((j + 2 : Nat) : Int)) (fun k => ?_) ?_
          · simp only [spec_GoodSet.l0]
            rw [e1, if_pos (by omega), if_pos (by omega), if_pos (by omega), if_pos (by omega), rd_at l j (by omega), rd_at l (j + 1) (by omega), if_neg h1, if_pos (by omega), e3, if_pos (by omega), if_pos (by omega), rd_at l (j - 1) (by omega), wr (l[j - 1]'(by omega) + 2) (by omega) (by omega), if_neg h2, e2]
          · rw [show decide (l[j - 1]'(by omega) + 2 ≤ l[j]'(by omega)) = true from decide_eq_true (by omega)]
            simpa using ih'

theorem goodS_bad (l : List Int) (h : ¬ (l.length % 2 = 0 ∧ l.length ≤ 24 ∧ l.all (inB 0 1114111) = true)) : GoodS l = false := by
  cases hg : GoodS l with
  | false => rfl
  | true =>
    unfold GoodS at hg
    rw [Bool.and_eq_true, decide_eq_true_eq] at hg
    refine absurd ⟨good_even l 0 hg.1, hg.2, ?_⟩ h
    rw [List.all_eq_true]
    intro x hx
    exact (inB_iff _ _ _).2 (good_all l 0 (by omega) hg.1 x hx)

theorem specSet_ev (l : List Int) (hl : l.length ≤ 17592186044416) : Ev (fun k => spec_GoodSet.f k l) (GoodS l) := by
  have jt : Ev (fun k => spec_GoodSet.j0 k l true) false := Ev.step (f := fun _ => some false) (fun k => by simp [spec_GoodSet.j0]) (Ev.now _)
  unfold spec_GoodSet.f
  by_cases h1 : l.length % 2 = 1
  · rw [goodS_bad l (by omega)]
    exact Ev.congr (fun k => by rw [if_pos (by omega)]) jt
  · by_cases h2 : l.length ≤ 24
    · refine Ev.congr (f := fun k => (spec_l1All.f k l 0 1114111).bind fun t => spec_GoodSet.j0 k l (!t)) (fun k => by rw [if_neg (by omega), if_neg (by omega)]) ?_
      refine Ev.bind (l1All_ev l hl 0 1114111) ?_
      cases ha : l.all (inB 0 1114111) with
      | false =>
        rw [goodS_bad l (by rw [ha]; simp)]
        exact jt
      | true =>
        refine Ev.step (f := fun k => spec_GoodSet.l0 k l ((0 : Nat) : Int)) (fun k => by simp [spec_GoodSet.j0]) ?_
        have := specSet_l l hl (fun x hx => (inB_iff _ _ _).1 (List.all_eq_true.1 ha x hx)) (l.length / 2) 0 (by omega)
        have e : GoodS l = Good (lst l 0) (l.drop 0) := by unfold GoodS lst; simp [h2]
        rw [e]
        exact this
    · rw [goodS_bad l (by omega)]
      exact Ev.congr (fun k => by rw [if_neg (by omega), if_pos (by omega)]) jt

/-- As the program asks it: number by number. -/
def GA : Bool → Int → List Int → Bool
  | _, _, [] => true
  | p, least, n :: r => inB least 1114111 n && GA (!p) (if p = true then n else n + 2) r

theorem ga_good (l : List Int) : ∀ a, l.length % 2 = 0 → GA true a l = Good a l := by
  match l with
  | [] => intro a _; rfl
  | [_] => intro a h; simp at h
  | x :: y :: r =>
    intro a h
    have ih := ga_good r (y + 2) (by simp only [List.length_cons] at h; omega)
    simp only [GA, Good, Bool.not_true, if_true, Bool.not_false, Bool.false_eq_true, if_false, ih]
    rw [Bool.eq_iff_iff]
    simp only [Bool.and_eq_true, inB_iff, decide_eq_true_eq]
    refine ⟨fun ⟨⟨h1, h2⟩, h3, h4⟩ => ⟨⟨⟨h1, h3.1⟩, h3.2⟩, h4⟩, fun ⟨⟨⟨h1, h2⟩, h3⟩, h4⟩ => ⟨⟨h1, by omega⟩, ⟨h2, h3⟩, h4⟩⟩
termination_by l.length

def lsi (l : List Int) (j : Nat) : Int := if j = 0 then 0 else if j % 2 = 0 then l.getD (j - 1) 0 + 2 else l.getD (j - 1) 0

theorem implSet_l (l : List Int) (hl : l.length ≤ 17592186044416) : ∀ (d j : Nat), j + d = l.length → (j ≠ 0 → l.getD (j - 1) 0 ≤ 1114111) → (j ≠ 0 → 0 ≤ l.getD (j - 1) 0) →
    Ev (fun k => impl_GoodSet.l0 k l l (l.length : Int) (j : Int)) (GA (j % 2 == 0) (lsi l j) (l.drop j) && decide (l.length % 2 = 0 ∧ l.length ≤ 24)) := by
  intro d
  induction d with
  | zero =>
    intro j hj _ _
    refine Ev.step (f := fun _ => some (GA (j % 2 == 0) (lsi l j) (l.drop j) && decide (l.length % 2 = 0 ∧ l.length ≤ 24))) (fun k => ?_) (Ev.now _)
    simp only [impl_GoodSet.l0]
    rw [if_neg (by omega), List.drop_of_length_le (by omega)]
    simp only [GA, Bool.true_and]
    by_cases h : l.length % 2 = 0
    · rw [if_pos (by omega)]
      simp [h]
      omega
    · rw [if_neg (by omega)]
      simp [h]
  | succ d ih =>
    intro j hj hp0 hp1
    have e1 : wrap64 ((j : Int) + 1) = ((j + 1 : Nat) : Int) := by rw [wr _ (by omega) (by omega)]; omega
    rw [drop_at l j (by omega), GA]
    have fin : ∀ (g : Nat → Option Bool), (∀ k, g (k + 1) = (impl_inRange.f (l[j]'(by omega)) (lsi l j) 1114111).bind fun t => if t = true then impl_GoodSet.l0 k l l (l.length : Int) (wrap64 ((j : Int) + 1)) else some false) →
        Ev g ((inB (lsi l j) 1114111 (l[j]'(by omega)) && GA (!(j % 2 == 0)) (if (j % 2 == 0) = true then l[j]'(by omega) else l[j]'(by omega) + 2) (l.drop (j + 1))) && decide (l.length % 2 = 0 ∧ l.length ≤ 24)) := by
      intro g hg
      cases hi : inB (lsi l j) 1114111 (l[j]'(by omega)) with
      | false =>
        refine Ev.step (f := fun _ => some false) (fun k => ?_) (by simpa using Ev.now false)
        rw [hg, in_i, hi]
        simp
      | true =>
        have hb := (inB_iff _ _ _).1 hi
        have h0 : 0 ≤ lsi l j := by
          unfold lsi
          by_cases z : j = 0
          · rw [if_pos z]; omega
          · have := hp1 z
            rw [if_neg z]
            by_cases z2 : j % 2 = 0
            · rw [if_pos z2]; omega
            · rw [if_neg z2]; omega
        refine Ev.step (f := fun k => impl_GoodSet.l0 k l l (l.length : Int) ((j + 1 : Nat) : Int)) (fun k => ?_) ?_
        · rw [hg, in_i, hi, e1]
          simp
        · have hq : l.getD (j + 1 - 1) 0 = l[j]'(by omega) := by rw [show j + 1 - 1 = j from by omega, getD_at l j (by omega)]
          have := ih (j + 1) (by omega) (fun _ => by rw [hq]; omega) (fun _ => by rw [hq]; omega)
          have es : lsi l (j + 1) = if (j % 2 == 0) = true then l[j]'(by omega) else l[j]'(by omega) + 2 := by
            unfold lsi
            rw [if_neg (by omega), hq]
            by_cases z : j % 2 = 0
            · rw [if_neg (by omega), if_pos (by simpa using z)]
            · rw [if_pos (by omega), if_neg (by simpa using z)]
          have ep : ((j + 1) % 2 == 0) = !(j % 2 == 0) := by
            by_cases z : j % 2 = 0
            · have : ¬ (j + 1) % 2 = 0 := by omega
              simp [z, this]
            · have : (j + 1) % 2 = 0 := by omega
              simp [z, this]
          rw [es, ep] at this
          rw [Bool.true_and]
          exact this
    by_cases z : j = 0
    · subst z
      refine Ev.step (f := fun k => impl_GoodSet.j1 k l ((0 : Nat) : Int) (l[0]'(by omega)) 0 l (l.length : Int) ((0 : Nat) : Int) false) (fun k => ?_) (fin _ fun k => ?_)
      · simp only [impl_GoodSet.l0]
        rw [if_pos (by omega), if_pos (by omega), if_pos (by omega), if_neg (by omega), rd_at l 0 (by omega)]
      · simp only [impl_GoodSet.j1]
        rw [if_neg (by simp), if_neg (by omega)]
        rfl
    · have e3 : wrap64 ((j : Int) - 1) = ((j - 1 : Nat) : Int) := by rw [wr _ (by omega) (by omega)]; omega
      have q0 := hp0 z
      have q1 := hp1 z
      have et : ((Int.tmod (j : Int) 2) == 0) = (j % 2 == 0) := by
        rw [show (2 : Int) = ((2 : Nat) : Int) from rfl, ← Int.ofNat_tmod, Bool.eq_iff_iff]
        simp only [beq_iff_eq]
        omega
      refine Ev.step (f := fun k => impl_GoodSet.j1 k l (j : Int) (l[j]'(by omega)) 0 l (l.length : Int) (j : Int) (j % 2 == 0)) (fun k => ?_) (fin _ fun k => ?_)
      · simp only [impl_GoodSet.l0]
        rw [if_pos (by omega), if_pos (by omega), if_pos (by omega), if_pos (by omega), rd_at l j (by omega), et]
      · simp only [impl_GoodSet.j1]
        by_cases z2 : j % 2 = 0
        · rw [if_pos (by simpa using z2), e3, if_pos (by omega), if_pos (by omega), rd_nat, wr (l.getD (j - 1) 0 + 2) (by omega) (by omega)]
          unfold lsi
          rw [if_neg z, if_pos z2]
        · rw [if_neg (by simpa using z2), if_pos (by omega), e3, if_pos (by omega), if_pos (by omega), rd_nat]
          unfold lsi
          rw [if_neg z, if_neg z2]

theorem implSet_ev (l : List Int) (hl : l.length ≤ 17592186044416) : Ev (fun k => impl_GoodSet.f k l) (GoodS l) := by
  have h := implSet_l l hl l.length 0 (by omega) (fun h => absurd rfl h) (fun h => absurd rfl h)
  have e : GoodS l = (GA (0 % 2 == 0) (lsi l 0) (l.drop 0) && decide (l.length % 2 = 0 ∧ l.length ≤ 24)) := by
    by_cases hev : l.length % 2 = 0
    · show (Good 0 l && decide (l.length ≤ 24)) = (GA true 0 l && _)
      rw [ga_good l 0 hev]
      simp [hev]
    · rw [goodS_bad l (by omega)]
      simp [hev]
  rw [e]
  exact Ev.congr (fun k => by unfold impl_GoodSet.f; rfl) h

theorem goodS_facts (l : List Int) (h : GoodS l = true) : l.length ≤ 24 ∧ l.length % 2 = 0 ∧ ∀ x ∈ l, 0 ≤ x ∧ x ≤ 1114111 := by
  unfold GoodS at h
  rw [Bool.and_eq_true, decide_eq_true_eq] at h
  exact ⟨h.2, good_even l 0 h.1, good_all l 0 (by omega) h.1⟩

theorem rdL_at (l : List (List Int)) (j : Nat) (h : j < l.length) : rd_L1 l (j : Int) = l[j] := by unfold rd_L1; simp [List.getD_eq_getElem?_getD, h]

theorem toIntSS_l (l : List (List Int)) (hl : l.length ≤ 1099511627776) (hr : ∀ r ∈ l, r.length ≤ 1099511627776) : ∀ (d j : Nat) (o : List (List Int)), j + d = l.length → o.length = l.length → (∀ i, i < j → o.getD i [] = l.getD i []) → Ev (fun k => laws_toIntSS.l0 k l o (j : Int)) l := by
  intro d
  induction d with
  | zero =>
    intro j o hj ho he
    refine Ev.step (f := fun _ => some l) (fun k => ?_) (Ev.now l)
    simp only [laws_toIntSS.l0]
    rw [if_neg (by omega)]
    congr 1
    refine List.ext_getElem (by omega) fun i h1 h2 => ?_
    have := he i (by omega)
    simpa [List.getD_eq_getElem?_getD, h1, h2] using this
  | succ d ih =>
    intro j o hj ho he
    have hj' : j < l.length := by omega
    refine Ev.step (f := fun k => (laws_toIntS.f k (l[j]'(by omega))).bind fun t => laws_toIntSS.l0 k l (o.set j t) ((j + 1 : Nat) : Int)) (fun k => ?_) (Ev.bind (toIntS_ev (l[j]'(by omega)) (by have := hr _ (List.getElem_mem hj'); omega)) (ih (j + 1) (o.set j (l[j]'(by omega))) (by omega) (by rw [List.length_set]; exact ho) fun i hi => ?_))
    · simp only [laws_toIntSS.l0]
      rw [if_pos (by omega), if_pos (by omega), rdL_at l j (by omega), wr ((j : Int) + 1) (by omega) (by omega)]
      congr 1
      funext t
      rw [if_pos (by omega)]
      simp
    · by_cases e : i = j
      · subst e
        simp [List.getD_eq_getElem?_getD, List.getElem?_set, ho, hj']
      · rw [← he i (by omega)]
        simp [List.getD_eq_getElem?_getD, List.getElem?_set, Ne.symm e]
theorem toIntSS_ev (l : List (List Int)) (hl : l.length ≤ 1099511627776) (hr : ∀ r ∈ l, r.length ≤ 1099511627776) : Ev (fun k => laws_toIntSS.f k l) l := by
  refine Ev.congr (f := fun k => laws_toIntSS.l0 k l (List.replicate l.length []) ((0 : Nat) : Int)) (fun k => ?_) (toIntSS_l l hl hr l.length 0 _ (by omega) (by simp) (fun i hi => by omega))
  unfold laws_toIntSS.f
  rw [if_pos (by omega), if_pos (by omega)]
  simp

theorem eqIntSS_l (a : List (List Int)) (hl : a.length ≤ 1099511627776) (hr : ∀ r ∈ a, r.length ≤ 1099511627776) : ∀ (d j : Nat), j + d = a.length → Ev (fun k => laws_eqIntSS.l0 k a a (j : Int)) true := by
  intro d
  induction d with
  | zero =>
    intro j hj
    refine Ev.step (f := fun _ => some true) (fun k => ?_) (Ev.now _)
    simp only [laws_eqIntSS.l0]
    rw [if_neg (by omega)]
  | succ d ih =>
    intro j hj
    have hj' : j < a.length := by omega
    refine Ev.step (f := fun k => (laws_eqIntS.f k (a[j]'(by omega)) (a[j]'(by omega))).bind fun t => if t = true then laws_eqIntSS.l0 k a a ((j + 1 : Nat) : Int) else some false) (fun k => ?_) (Ev.bind (eqIntS_ev (a[j]'(by omega)) (a[j]'(by omega)) (by have := hr _ (List.getElem_mem hj'); omega)) ?_)
    · simp only [laws_eqIntSS.l0]
      rw [if_pos (by omega), if_pos (by omega), if_pos (by omega), rdL_at a j (by omega), wr ((j : Int) + 1) (by omega) (by omega)]
      rfl
    · exact Ev.congr (fun k => by rw [if_pos (by simp)]) (ih (j + 1) (by omega))
theorem eqIntSS_ev (a : List (List Int)) (hl : a.length ≤ 1099511627776) (hr : ∀ r ∈ a, r.length ≤ 1099511627776) : Ev (fun k => laws_eqIntSS.f k a a) true :=
  Ev.congr (fun k => by unfold laws_eqIntSS.f; rw [if_pos rfl]; rfl) (eqIntSS_l a hl hr a.length 0 (by omega))

theorem szIntS_v (l : List Int) (b : Int) (h0 : 0 ≤ b) (h1 : b ≤ 1048576) (hl : l.length ≤ 9223372036854775807) : laws_szIntS.f l b = some (if b - (l.length : Int) < 0 then -1 else b - (l.length : Int)) := by
  unfold laws_szIntS.f
  rw [wr _ (by omega) (by omega)]
  split <;> rfl
def szRows : Int → List (List Int) → Int
  | b, r :: t => if b - (r.length : Int) < 0 then -1 else szRows (b - (r.length : Int)) t
  | b, [] => b
theorem szRows_ok (l : List (List Int)) : ∀ b, 0 ≤ b → szRows b l ≤ b ∧ (szRows b l < 0 ∨ (∀ r ∈ l, (r.length : Int) ≤ b)) := by
  induction l with
  | nil => intro b _; exact ⟨Int.le_refl _, Or.inr (fun r h => by cases h)⟩
  | cons x t ih =>
    intro b hb
    rw [szRows]
    by_cases c : b - (x.length : Int) < 0
    · rw [if_pos c]; exact ⟨by omega, Or.inl (by omega)⟩
    · rw [if_neg c]
      obtain ⟨h1, h2⟩ := ih (b - (x.length : Int)) (by omega)
      refine ⟨by omega, h2.imp id fun h r hr => ?_⟩
      rcases List.mem_cons.1 hr with rfl | hr
      · omega
      · have := h r hr; omega
theorem szIntSS_l (l : List (List Int)) (hl : l.length ≤ 1048576) (hr : ∀ r ∈ l, r.length ≤ 9223372036854775807) : ∀ (d j : Nat) (b : Int), j + d = l.length → 0 ≤ b → b ≤ 1048576 → Ev (fun k => laws_szIntSS.l0 k l b (j : Int)) (szRows b (l.drop j)) := by
  intro d
  induction d with
  | zero =>
    intro j b hj h0 h1
    refine Ev.step (f := fun _ => some b) (fun k => ?_) (by rw [List.drop_of_length_le (by omega)]; exact Ev.now _)
    simp only [laws_szIntSS.l0]
    rw [if_neg (by omega)]
  | succ d ih =>
    intro j b hj h0 h1
    have hj' : j < l.length := by omega
    rw [List.drop_eq_getElem_cons hj', szRows]
    refine Ev.step (f := fun k => (laws_szIntS.f (l[j]'hj') b).bind fun t => if t < 0 then some (-1) else laws_szIntSS.l0 k l t ((j + 1 : Nat) : Int)) (fun k => ?_) ?_
    · simp only [laws_szIntSS.l0]
      rw [if_pos (by omega), if_pos (by omega), rdL_at l j hj', wr ((j : Int) + 1) (by omega) (by omega)]
      rfl
    · rw [szIntS_v _ _ h0 h1 (hr _ (List.getElem_mem hj'))]
      refine Ev.bind (Ev.now _) ?_
      by_cases c : b - ((l[j]'hj').length : Int) < 0
      · rw [if_pos c, if_pos c]
        exact Ev.congr (fun k => by rw [if_pos (by omega)]) (Ev.now _)
      · rw [if_neg c, if_neg c]
        exact Ev.congr (fun k => by rw [if_neg c]) (ih (j + 1) _ (by omega) (by omega) (by omega))
theorem szIntSS_ev (l : List (List Int)) (b : Int) (h0 : 0 ≤ b) (h1 : b ≤ 1048576) (hl : l.length ≤ 9223372036854775807) (hr : ∀ r ∈ l, r.length ≤ 9223372036854775807) : ∃ v, Ev (fun k => laws_szIntSS.f k l b) v ∧ v ≤ b ∧ (v < 0 ∨ ((l.length : Int) ≤ b ∧ ∀ r ∈ l, (r.length : Int) ≤ b)) := by
  unfold laws_szIntSS.f
  rw [wr (b - (l.length : Int)) (by omega) (by omega)]
  by_cases c : b - (l.length : Int) < 0
  · exact ⟨-1, Ev.congr (fun k => by rw [if_pos c]) (Ev.now _), by omega, Or.inl (by omega)⟩
  · obtain ⟨g1, g2⟩ := szRows_ok l (b - (l.length : Int)) (by omega)
    refine ⟨szRows (b - (l.length : Int)) l, Ev.congr (fun k => by rw [if_neg c]; rfl) (szIntSS_l l (by omega) hr l.length 0 _ (by omega) (by omega) (by omega)), by omega, g2.imp id fun h => ⟨by omega, fun r hr => by have := h r hr; omega⟩⟩
/-- Rising, behind p (none: the first), within bounds. -/
def ahead : Option Int → Int → Bool
  | none, _ => true
  | some q, x => decide (q < x)
def RisV (lo hi : Int) : Option Int → List Int → Bool
  | _, [] => true
  | p, x :: r => inB lo hi x && ahead p x && RisV lo hi (some x) r
def prev (l : List Int) (j : Nat) : Option Int := if j = 0 then none else some (l.getD (j - 1) 0)
theorem prev_succ (l : List Int) (j : Nat) (h : j < l.length) : prev l (j + 1) = some (l[j]) := by
  unfold prev
  rw [if_neg (by omega), Nat.add_sub_cancel, getD_at l j h]

theorem specRis_l (l : List Int) (lo hi : Int) (hl : l.length ≤ 1099511627776) : ∀ (d j : Nat), j + d = l.length → Ev (fun k => spec_l1Rising.l0 k l lo hi l (l.length : Int) (j : Int)) (RisV lo hi (prev l j) (l.drop j)) := by
  intro d
  induction d with
  | zero =>
    intro j hj
    refine Ev.step (f := fun _ => some true) (fun k => ?_) (by rw [List.drop_of_length_le (by omega)]; exact Ev.now _)
    simp only [spec_l1Rising.l0]
    rw [if_neg (by omega)]
  | succ d ih =>
    intro j hj
    have hj' : j < l.length := by omega
    have e1 : wrap64 ((j : Int) + 1) = ((j + 1 : Nat) : Int) := by rw [wr _ (by omega) (by omega)]; omega
    have ih' := ih (j + 1) (by omega)
    rw [prev_succ l j hj'] at ih'
    rw [drop_at l j hj', RisV]
    refine Ev.step (fun k => by simp only [spec_l1Rising.l0]; rw [if_pos (by omega), if_pos (by omega), if_pos (by omega), rd_at l j hj', in_s, Option.bind_some, e1]) ?_
    cases inB lo hi (l[j]'hj') with
    | false => exact Ev.congr (fun k => by rw [if_neg (by simp)]) (by simpa using Ev.now false)
    | true =>
      by_cases hz : j = 0
      · refine Ev.congr (fun k => by rw [if_pos rfl, if_neg (by omega)]) ?_
        unfold prev
        rw [if_pos hz]
        simpa [ahead] using ih'
      · have e2 : wrap64 ((j : Int) - 1) = ((j - 1 : Nat) : Int) := by rw [wr _ (by omega) (by omega)]; omega
        have ep : prev l j = some (l[j - 1]'(by omega)) := by unfold prev; rw [if_neg hz, getD_at l (j - 1) (by omega)]
        rw [ep]
        refine Ev.congr (fun k => by rw [if_pos rfl, if_pos (by omega), e2, if_pos (by omega), if_pos (by omega), rd_at l (j - 1) (by omega)]) ?_
        by_cases c : l[j - 1]'(by omega) ≥ l[j]'hj'
        · refine Ev.congr (fun k => by rw [if_pos c]) ?_
          rw [show ahead (some (l[j - 1]'(by omega))) (l[j]'hj') = false from decide_eq_false (by omega)]
          simpa using Ev.now false
        · refine Ev.congr (fun k => by rw [if_neg c]) ?_
          rw [show ahead (some (l[j - 1]'(by omega))) (l[j]'hj') = true from decide_eq_true (by omega)]
          simpa using ih'
theorem implRis_l (l : List Int) (lo hi : Int) (hl : l.length ≤ 1099511627776) : ∀ (d j : Nat), j + d = l.length → Ev (fun k => impl_isRising.l0 k l lo hi l (l.length : Int) (j : Int)) (RisV lo hi (prev l j) (l.drop j)) := by
  intro d
  induction d with
  | zero =>
    intro j hj
    refine Ev.step (f := fun _ => some true) (fun k => ?_) (by rw [List.drop_of_length_le (by omega)]; exact Ev.now _)
    simp only [impl_isRising.l0]
    rw [if_neg (by omega)]
  | succ d ih =>
    intro j hj
    have hj' : j < l.length := by omega
    have e1 : wrap64 ((j : Int) + 1) = ((j + 1 : Nat) : Int) := by rw [wr _ (by omega) (by omega)]; omega
    have ih' := ih (j + 1) (by omega)
    rw [prev_succ l j hj'] at ih'
    rw [drop_at l j hj', RisV]
    refine Ev.step (fun k => by simp only [impl_isRising.l0]; rw [if_pos (by omega), if_pos (by omega), if_pos (by omega), rd_at l j hj', in_i, Option.bind_some, e1]) ?_
    cases inB lo hi (l[j]'hj') with
    | false => exact Ev.congr (fun k => by rw [if_neg (by simp)]) (by simpa using Ev.now false)
    | true =>
      by_cases hz : j = 0
      · refine Ev.congr (fun k => by rw [if_pos rfl, if_neg (by omega)]) ?_
        unfold prev
        rw [if_pos hz]
        simpa [ahead] using ih'
      · have e2 : wrap64 ((j : Int) - 1) = ((j - 1 : Nat) : Int) := by rw [wr _ (by omega) (by omega)]; omega
        have ep : prev l j = some (l[j - 1]'(by omega)) := by unfold prev; rw [if_neg hz, getD_at l (j - 1) (by omega)]
        rw [ep]
        refine Ev.congr (fun k => by rw [if_pos rfl, if_pos (by omega), e2, if_pos (by omega), if_pos (by omega), rd_at l (j - 1) (by omega)]) ?_
        by_cases c : l[j - 1]'(by omega) ≥ l[j]'hj'
        · refine Ev.congr (fun k => by rw [if_pos c]) ?_
          rw [show ahead (some (l[j - 1]'(by omega))) (l[j]'hj') = false from decide_eq_false (by omega)]
          simpa using Ev.now false
        · refine Ev.congr (fun k => by rw [if_neg c]) ?_
          rw [show ahead (some (l[j - 1]'(by omega))) (l[j]'hj') = true from decide_eq_true (by omega)]
          simpa using ih'
def risV (l : List Int) (lo hi : Int) : Bool := RisV lo hi none l
theorem specRis_ev (l : List Int) (lo hi : Int) (hl : l.length ≤ 1099511627776) : Ev (fun k => spec_l1Rising.f k l lo hi) (risV l lo hi) :=
  Ev.congr (fun k => by unfold spec_l1Rising.f; rfl) (by simpa [prev, risV] using specRis_l l lo hi hl l.length 0 (by omega))
theorem implRis_ev (l : List Int) (lo hi : Int) (hl : l.length ≤ 1099511627776) : Ev (fun k => impl_isRising.f k l lo hi) (risV l lo hi) :=
  Ev.congr (fun k => by unfold impl_isRising.f; rfl) (by simpa [prev, risV] using implRis_l l lo hi hl l.length 0 (by omega))
/-- A place machine within bounds. -/
def SmallNfa (s : List (List Int)) (a b : List Int) (w : List (List Int)) : Prop := (s.length ≤ 1048576 ∧ ∀ r ∈ s, r.length ≤ 1048576) ∧ a.length ≤ 1048576 ∧ b.length ≤ 1048576 ∧ w.length ≤ 1048576 ∧ ∀ r ∈ w, r.length ≤ 1048576
theorem szNfa_ev (e : Bool) (s : List (List Int)) (a b : List Int) (w : List (List Int)) (hs : s.length ≤ 9223372036854775807) (hsr : ∀ r ∈ s, r.length ≤ 9223372036854775807) (ha : a.length ≤ 9223372036854775807) (hb : b.length ≤ 9223372036854775807) (hw : w.length ≤ 9223372036854775807) (hwr : ∀ r ∈ w, r.length ≤ 9223372036854775807) : ∃ v, Ev (fun k => laws_szNfa.f k e s a b w 1048576) v ∧ (v < 0 ∨ SmallNfa s a b w) := by
  unfold laws_szNfa.f
  obtain ⟨v1, e1, u1, g1⟩ := szIntSS_ev s 1048576 (by omega) (by omega) hs hsr
  by_cases h1 : v1 < 0
  · exact ⟨-1, Ev.bind e1 (Ev.congr (fun k => by rw [if_pos h1]) (Ev.now _)), Or.inl (by omega)⟩
  have g1' := g1.resolve_left h1
  by_cases h2 : v1 - (a.length : Int) < 0
  · exact ⟨-1, Ev.bind e1 (Ev.congr (fun k => by rw [if_neg h1, szIntS_v a v1 (by omega) (by omega) ha, if_pos h2, Option.bind_some, if_pos (by omega)]) (Ev.now _)), Or.inl (by omega)⟩
  by_cases h3 : v1 - (a.length : Int) - (b.length : Int) < 0
  · exact ⟨-1, Ev.bind e1 (Ev.congr (fun k => by rw [if_neg h1, szIntS_v a v1 (by omega) (by omega) ha, if_neg h2, Option.bind_some, if_neg h2, szIntS_v b _ (by omega) (by omega) hb, if_pos h3, Option.bind_some, if_pos (by omega)]) (Ev.now _)), Or.inl (by omega)⟩
  obtain ⟨v2, e2, u2, g2⟩ := szIntSS_ev w (v1 - (a.length : Int) - (b.length : Int)) (by omega) (by omega) hw hwr
  have st : ∀ (g : Nat → Option Int) (r : Int), Ev g r → (∀ k, ((laws_szIntSS.f k w (v1 - (a.length : Int) - (b.length : Int))).bind fun t107 => if t107 < 0 then some (-1) else some t107) = g k) → Ev (fun k => (laws_szIntSS.f k s 1048576).bind fun t104 => if t104 < 0 then some (-1) else (laws_szIntS.f a t104).bind fun t105 => if t105 < 0 then some (-1) else (laws_szIntS.f b t105).bind fun t106 => if t106 < 0 then some (-1) else (laws_szIntSS.f k w t106).bind fun t107 => if t107 < 0 then some (-1) else some t107) r := by
    intro g r hg he
    refine Ev.bind e1 (Ev.congr (fun k => ?_) hg)
    rw [if_neg h1, szIntS_v a v1 (by omega) (by omega) ha, if_neg h2, Option.bind_some, if_neg h2, szIntS_v b _ (by omega) (by omega) hb, if_neg h3, Option.bind_some, if_neg h3, he]
  by_cases h4 : v2 < 0
  · exact ⟨-1, st _ _ (Ev.bind e2 (Ev.congr (fun k => by rw [if_pos h4]) (Ev.now _))) (fun k => rfl), Or.inl (by omega)⟩
  · have g2' := g2.resolve_left h4
    exact ⟨v2, st _ _ (Ev.bind e2 (Ev.congr (fun k => by rw [if_neg h4]) (Ev.now _))) (fun k => rfl), Or.inr ⟨⟨by omega, fun r hr => by have := g1'.2 r hr; omega⟩, by omega, by omega, by omega, fun r hr => by have := g2'.2 r hr; omega⟩⟩
theorem toNfa_ev (e : Bool) (s : List (List Int)) (a b : List Int) (w : List (List Int)) (h : SmallNfa s a b w) : Ev (fun k => laws_toNfa.f k e s a b w) (e, s, a, b, w) := by
  obtain ⟨⟨h1, h2⟩, h3, h4, h5, h6⟩ := h
  unfold laws_toNfa.f
  exact Ev.bind (toIntSS_ev s (by omega) (fun r hr => by have := h2 r hr; omega)) (Ev.bind (toIntS_ev a (by omega)) (Ev.bind (toIntS_ev b (by omega)) (Ev.bind (toIntSS_ev w (by omega) (fun r hr => by have := h6 r hr; omega)) (Ev.now _))))
theorem eqNfa_ev (e : Bool) (s : List (List Int)) (a b : List Int) (w : List (List Int)) (h : SmallNfa s a b w) : Ev (fun k => laws_eqNfa.f k e s a b w e s a b w) true := by
  obtain ⟨⟨h1, h2⟩, h3, h4, h5, h6⟩ := h
  unfold laws_eqNfa.f
  refine Ev.congr (fun k => by rw [if_neg (by simp)]) (Ev.bind (eqIntSS_ev s (by omega) (fun r hr => by have := h2 r hr; omega)) (Ev.congr (fun k => by rw [if_pos rfl]) (Ev.bind (eqIntS_ev a a (by omega)) (Ev.congr (fun k => by rw [if_pos (by simp)]) (Ev.bind (eqIntS_ev b b (by omega)) (Ev.congr (fun k => by rw [if_pos (by simp)]) (Ev.bind (eqIntSS_ev w (by omega) (fun r hr => by have := h6 r hr; omega)) (Ev.congr (fun k => by rw [if_pos rfl]) (Ev.now _)))))))))

/-- Is a place machine good? -/
def GoodN (s : List (List Int)) (a b : List Int) (w : List (List Int)) : Bool :=
  decide (s.length ≤ 40) && (decide (w.length = s.length) && (risV a 0 ((s.length : Int) - 1) && (risV b 0 ((s.length : Int) - 1) && (s.all GoodS && w.all fun r => risV r 0 ((s.length : Int) - 1)))))

theorem specN_l (e : Bool) (s : List (List Int)) (a b : List Int) (w : List (List Int)) (h : SmallNfa s a b w) (hw : w.length = s.length) : ∀ (d j : Nat), j + d = s.length → Ev (fun k => spec_GoodNfa.l0 k (s.length : Int) s (s.length : Int) (j : Int) e s a b w) ((s.drop j).all GoodS && (w.drop j).all fun r => risV r 0 ((s.length : Int) - 1)) := by
  obtain ⟨⟨h1, h2⟩, h3, h4, h5, h6⟩ := h
  intro d
  induction d with
  | zero =>
    intro j hj
    refine Ev.step (f := fun _ => some true) (fun k => ?_) (by rw [List.drop_of_length_le (by omega), List.drop_of_length_le (by omega)]; exact Ev.now _)
    simp only [spec_GoodNfa.l0]
    rw [if_neg (by omega)]
  | succ d ih =>
    intro j hj
    have hj' : j < s.length := by omega
    have hjw : j < w.length := by omega
    have hr1 := h2 _ (List.getElem_mem hj')
    have hr2 := h6 _ (List.getElem_mem hjw)
    have e1 : wrap64 ((j : Int) + 1) = ((j + 1 : Nat) : Int) := by rw [wr _ (by omega) (by omega)]; omega
    rw [List.drop_eq_getElem_cons hj', List.drop_eq_getElem_cons hjw, List.all_cons, List.all_cons]
    refine Ev.step (fun k => by simp only [spec_GoodNfa.l0]; rw [if_pos (by omega), if_pos (by omega), if_pos (by omega), rdL_at s j hj', wr ((s.length : Int) - 1) (by omega) (by omega), e1]) ?_
    refine Ev.bind (specSet_ev (s[j]'hj') (by omega)) ?_
    cases GoodS (s[j]'hj') with
    | false => exact Ev.congr (fun k => by rw [if_neg (by simp)]) (by simpa using Ev.now false)
    | true =>
      refine Ev.congr (fun k => by rw [if_pos rfl, if_pos (by omega), rdL_at w j hjw]) (Ev.bind (specRis_ev (w[j]'hjw) 0 ((s.length : Int) - 1) (by omega)) ?_)
      cases risV (w[j]'hjw) 0 ((s.length : Int) - 1) with
      | false => exact Ev.congr (fun k => by rw [if_neg (by simp)]) (by simpa using Ev.now false)
      | true => exact Ev.congr (fun k => by rw [if_pos rfl]) (by simpa using ih (j + 1) (by omega))

theorem specGoodN_ev (e : Bool) (s : List (List Int)) (a b : List Int) (w : List (List Int)) (h : SmallNfa s a b w) : Ev (fun k => spec_GoodNfa.f k e s a b w) (GoodN s a b w) := by
  have h' := h
  obtain ⟨⟨h1, h2⟩, h3, h4, h5, h6⟩ := h
  have bad : Ev (fun k => spec_GoodNfa.j0 k (s.length : Int) true e s a b w) false := Ev.step (f := fun _ => some false) (fun k => by simp [spec_GoodNfa.j0]) (Ev.now _)
  unfold spec_GoodNfa.f GoodN
  rw [wr ((s.length : Int) - 1) (by omega) (by omega)]
  by_cases c1 : s.length ≤ 40
  · refine Ev.congr (fun k => by rw [if_neg (by omega)]) ?_
    rw [decide_eq_true c1, Bool.true_and]
    by_cases c2 : w.length = s.length
    · refine Ev.congr (fun k => by rw [if_pos (by omega)]) (Ev.bind (specRis_ev a 0 ((s.length : Int) - 1) (by omega)) ?_)
      rw [decide_eq_true c2, Bool.true_and]
      cases risV a 0 ((s.length : Int) - 1) with
      | false => exact Ev.congr (fun k => by rw [if_neg (by simp)]) (by simpa using bad)
      | true =>
        refine Ev.congr (fun k => by rw [if_pos rfl]) (Ev.bind (specRis_ev b 0 ((s.length : Int) - 1) (by omega)) ?_)
        rw [Bool.true_and]
        cases risV b 0 ((s.length : Int) - 1) with
        | false => simpa using bad
        | true =>
          refine Ev.step (f := fun k => spec_GoodNfa.l0 k (s.length : Int) s (s.length : Int) ((0 : Nat) : Int) e s a b w) (fun k => by simp [spec_GoodNfa.j0]) ?_
          simpa using specN_l e s a b w h' c2 s.length 0 (by omega)
    · refine Ev.congr (fun k => by rw [if_neg (by omega)]) ?_
      rw [decide_eq_false c2, Bool.false_and]
      exact bad
  · refine Ev.congr (fun k => by rw [if_pos (by omega)]) ?_
    rw [decide_eq_false c1, Bool.false_and]
    exact bad

theorem anyO_ev (f : Nat → List Int → Option Bool) (p : List Int → Bool) (l : List (List Int)) (h : ∀ x ∈ l, Ev (fun k => f k x) (p x)) : Ev (fun k => anyO (f k) l) (l.any p) := by
  have key : ∃ K, ∀ k, K ≤ k → ∀ x ∈ l, f k x = some (p x) := by
    induction l with
    | nil => exact ⟨0, fun k _ x hx => by cases hx⟩
    | cons y t ih =>
      obtain ⟨K1, h1⟩ := ih (fun x hx => h x (by simp [hx]))
      obtain ⟨K2, h2⟩ := h y (by simp)
      refine ⟨max K1 K2, fun k hk x hx => ?_⟩
      rcases List.mem_cons.1 hx with rfl | hx
      · exact h2 k (by omega)
      · exact h1 k (by omega) x hx
  obtain ⟨K, hK⟩ := key
  refine ⟨K, fun k hk => ?_⟩
  have hf := hK k hk
  show anyO (f k) l = some (l.any p)
  unfold anyO
  rw [if_pos (List.all_eq_true.2 fun x hx => by rw [hf x hx]; rfl)]
  congr 1
  rw [Bool.eq_iff_iff, List.any_eq_true, List.any_eq_true]
  exact ⟨fun ⟨x, hx, e⟩ => ⟨x, hx, by rw [hf x hx] at e; exact e⟩, fun ⟨x, hx, e⟩ => ⟨x, hx, by rw [hf x hx]; exact e⟩⟩

theorem implGoodN_ev (e : Bool) (s : List (List Int)) (a b : List Int) (w : List (List Int)) (h : SmallNfa s a b w) : Ev (fun k => impl_GoodNfa.f k e s a b w) (GoodN s a b w) := by
  obtain ⟨⟨h1, h2⟩, h3, h4, h5, h6⟩ := h
  unfold impl_GoodNfa.f GoodN
  by_cases c1 : s.length ≤ 40
  · refine Ev.congr (fun k => by rw [if_neg (by omega)]) ?_
    rw [decide_eq_true c1, Bool.true_and]
    by_cases c2 : w.length = s.length
    · refine Ev.congr (fun k => by rw [if_pos c2]) (Ev.bind (implRis_ev a 0 ((s.length : Int) - 1) (by omega)) ?_)
      rw [decide_eq_true c2, Bool.true_and]
      cases risV a 0 ((s.length : Int) - 1) with
      | false => exact Ev.congr (fun k => by rw [if_neg (by simp)]) (by simpa using Ev.now false)
      | true =>
        refine Ev.congr (fun k => by rw [if_pos rfl]) (Ev.bind (implRis_ev b 0 ((s.length : Int) - 1) (by omega)) ?_)
        rw [Bool.true_and]
        cases risV b 0 ((s.length : Int) - 1) with
        | false => exact Ev.congr (fun k => by rw [if_neg (by simp)]) (by simpa using Ev.now false)
        | true =>
          have q1 : Ev (fun k => anyO (fun x => notO (impl_GoodSet.f k x)) s) (s.any fun x => !GoodS x) := anyO_ev (fun k x => notO (impl_GoodSet.f k x)) _ s fun x hx => Ev.bind (implSet_ev x (by have := h2 x hx; omega)) (Ev.now _)
          have q2 : Ev (fun k => anyO (fun x => notO (impl_isRising.f k x 0 ((s.length : Int) - 1))) w) (w.any fun x => !risV x 0 ((s.length : Int) - 1)) := anyO_ev (fun k x => notO (impl_isRising.f k x 0 ((s.length : Int) - 1))) _ w fun x hx => Ev.bind (implRis_ev x 0 ((s.length : Int) - 1) (by have := h6 x hx; omega)) (Ev.now _)
          refine Ev.congr (fun k => by rw [if_pos rfl]) (Ev.bind q1 ?_)
          have n1 : (s.any fun x => !GoodS x) = !s.all GoodS := by rw [List.not_all_eq_any_not]
          have n2 : (w.any fun x => !risV x 0 ((s.length : Int) - 1)) = !w.all fun r => risV r 0 ((s.length : Int) - 1) := by rw [List.not_all_eq_any_not]
          rw [n1]
          rw [n2] at q2
          cases s.all GoodS with
          | false => exact Ev.congr (fun k => by rw [if_pos (by simp)]) (by simpa using Ev.now false)
          | true =>
            refine Ev.congr (fun k => by rw [if_neg (by simp)]) (Ev.bind q2 ?_)
            rw [Bool.not_not, Bool.true_and, Bool.true_and]
            exact Ev.now _
    · refine Ev.congr (fun k => by rw [if_neg c2]) ?_
      rw [decide_eq_false c2, Bool.false_and]
      exact Ev.now _
  · refine Ev.congr (fun k => by rw [if_pos (by omega)]) ?_
    rw [decide_eq_false c1, Bool.false_and]
    exact Ev.now _
theorem FnExactGoodNfa (e : Bool) (s : List (List Int)) (a b : List Int) (w : List (List Int)) (hs : s.length ≤ 9223372036854775807) (hsr : ∀ r ∈ s, r.length ≤ 9223372036854775807) (ha : a.length ≤ 9223372036854775807) (hb : b.length ≤ 9223372036854775807) (hw : w.length ≤ 9223372036854775807) (hwr : ∀ r ∈ w, r.length ≤ 9223372036854775807) : ∃ k, laws_FnExactGoodNfa.f k e s a b w = some true := by
  refine Ev.rounds (r := true) ?_
  unfold laws_FnExactGoodNfa.f
  obtain ⟨v, e1, e2⟩ := szNfa_ev e s a b w hs hsr ha hb hw hwr
  refine Ev.bind e1 ?_
  by_cases h : v < 0
  · exact Ev.congr (fun k => by rw [if_pos h]) (Ev.now true)
  · have hs := e2.resolve_left h
    refine Ev.congr (fun k => by rw [if_neg h]) (Ev.bind (toNfa_ev e s a b w hs) (Ev.bind (specGoodN_ev e s a b w hs) (Ev.bind (toNfa_ev e s a b w hs) (Ev.bind (implGoodN_ev e s a b w hs) ?_))))
    refine Ev.congr (fun k => by rw [if_neg (by simp)]) (Ev.bind (toNfa_ev e s a b w hs) (Ev.bind (eqNfa_ev e s a b w hs) ?_))
    exact Ev.congr (fun k => by rw [if_pos rfl]) (Ev.now true)

end Go.Proofs.Ytaeaeejfaffbpaa.Pure
