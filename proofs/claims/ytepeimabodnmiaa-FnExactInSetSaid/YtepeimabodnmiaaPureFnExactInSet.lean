/-
  For every input the law FnExactInSet returns true; no condition.
-/
import Derived.Test.YtepeimabodnmiaaHFnExactInSetx8
namespace Go.Proofs.Ytepeimabodnmiaa.Pure
open Go.RowKit Go.Proofs.Ytepeimabodnmiaa.HFnExactInSet Go.Proofs.YtepeimabodnmiaaW.PrintWords Go.Proofs.YtepeimabodnmiaaW.PrintLast
set_option linter.unusedSimpArgs false
set_option linter.unusedVariables false
theorem wr (i : Int) (h0 : -9223372036854775808 ≤ i) (h1 : i ≤ 9223372036854775807) : wrap64 i = i := by unfold wrap64; omega

theorem rd_nat (l : List Int) (j : Nat) : rd l (j : Int) = l.getD j 0 := by unfold rd; simp

theorem getD_at (l : List Int) (j : Nat) (h : j < l.length) : l.getD j 0 = l[j] := by simp [List.getD_eq_getElem?_getD, h]

theorem rd_at (l : List Int) (j : Nat) (h : j < l.length) : rd l (j : Int) = l[j] := by rw [rd_nat, getD_at l j h]

theorem drop_at (l : List Int) (j : Nat) (h : j < l.length) : l.drop j = l[j] :: l.drop (j + 1) := List.drop_eq_getElem_cons h

theorem toIntS_l (l : List Int) (hl : l.length ≤ 17592186044416) : ∀ (d j : Nat) (o : List Int), j + d = l.length → o.length = l.length → (∀ i, i < j → o.getD i 0 = l.getD i 0) → Ev (fun k => laws_toIntS.l0 k l o (j : Int)) l := by
  intro d
  induction d with
  | zero =>
    intro j o hj ho he
    refine Ev.step (f := fun _ => some l) (fun k => ?_) (Ev.now l)
    simp only [laws_toIntS.l0]
    rw [if_neg (by omega)]
    congr 1
    refine List.ext_getElem (by omega) fun i h1 h2 => ?_
    have := he i (by omega)
    rwa [getD_at o i h1, getD_at l i h2] at this
  | succ d ih =>
    intro j o hj ho he
    refine Ev.step (f := fun k => laws_toIntS.l0 k l (o.set j (l.getD j 0)) ((j + 1 : Nat) : Int)) (fun k => ?_) (ih (j + 1) _ (by omega) (by rw [List.length_set]; exact ho) fun i hi => ?_)
    · simp only [laws_toIntS.l0]
      rw [if_pos (by omega), if_pos (by omega), if_pos (by omega), wr _ (by omega) (by omega), rd_nat]
      simp
    · by_cases e : i = j
      · subst e
        rw [getD_at _ _ (by rw [List.length_set]; omega)]
        simp
      · rw [← he i (by omega)]
        simp [List.getD_eq_getElem?_getD, List.getElem?_set, Ne.symm e]

theorem toIntS_ev (l : List Int) (hl : l.length ≤ 17592186044416) : Ev (fun k => laws_toIntS.f k l) l := by
  refine Ev.congr (f := fun k => laws_toIntS.l0 k l (List.replicate l.length 0) ((0 : Nat) : Int)) (fun k => ?_) (toIntS_l l hl l.length 0 _ (by omega) (by simp) (fun i hi => by omega))
  unfold laws_toIntS.f
  rw [if_pos (by omega), if_pos (by omega)]
  simp

theorem eqIntS_l (a b : List Int) (hab : a.length = b.length) (hl : a.length ≤ 17592186044416) : ∀ (d j : Nat), j + d = a.length → a.take j = b.take j → Ev (fun k => laws_eqIntS.l0 k a b (j : Int)) (decide (a = b)) := by
  intro d
  induction d with
  | zero =>
    intro j hj ht
    refine Ev.step (f := fun _ => some (decide (a = b))) (fun k => ?_) (Ev.now _)
    simp only [laws_eqIntS.l0]
    rw [if_neg (by omega)]
    rw [List.take_of_length_le (by omega), List.take_of_length_le (by omega)] at ht
    simp [ht]
  | succ d ih =>
    intro j hj ht
    by_cases e : a[j]'(by omega) = b[j]'(by omega)
    · refine Ev.step (f := fun k => laws_eqIntS.l0 k a b ((j + 1 : Nat) : Int)) (fun k => ?_) (ih (j + 1) (by omega) ?_)
      · simp only [laws_eqIntS.l0]
        rw [if_pos (by omega), if_pos (by omega), if_pos (by omega), rd_at a j (by omega), rd_at b j (by omega), if_pos e, wr _ (by omega) (by omega)]
        simp
      · rw [List.take_succ_eq_append_getElem (by omega), List.take_succ_eq_append_getElem (by omega), ht, e]
    · refine Ev.step (f := fun _ => some (decide (a = b))) (fun k => ?_) (Ev.now _)
      simp only [laws_eqIntS.l0]
      rw [if_pos (by omega), if_pos (by omega), if_pos (by omega), rd_at a j (by omega), rd_at b j (by omega), if_neg e]
      have : ¬ a = b := fun h => e (by subst h; rfl)
      simp [this]

theorem eqIntS_ev (a b : List Int) (hl : a.length ≤ 17592186044416) : Ev (fun k => laws_eqIntS.f k a b) (decide (a = b)) := by
  by_cases h : a.length = b.length
  · refine Ev.congr (f := fun k => laws_eqIntS.l0 k a b ((0 : Nat) : Int)) (fun k => ?_) (eqIntS_l a b h hl a.length 0 (by omega) (by simp))
    unfold laws_eqIntS.f
    rw [if_pos (by omega)]
    simp
  · refine Ev.congr (f := fun _ => some (decide (a = b))) (fun k => ?_) (Ev.now _)
    unfold laws_eqIntS.f
    rw [if_neg (by omega)]
    have : ¬ a = b := fun e => h (by rw [e])
    simp [this]

/-- Within bounds. -/
def inB (lo hi n : Int) : Bool := decide (lo ≤ n ∧ n ≤ hi)
theorem inB_iff (lo hi n : Int) : inB lo hi n = true ↔ lo ≤ n ∧ n ≤ hi := by simp [inB]

theorem in_s (a b c : Int) : spec_l1In.f a b c = some (inB b c a) := by
  unfold spec_l1In.f inB
  by_cases h : a ≥ b
  · rw [if_pos h]; simp [show b ≤ a from h]
  · rw [if_neg h]; simp [show ¬ b ≤ a from h]

theorem in_i (a b c : Int) : impl_inRange.f a b c = some (inB b c a) := by
  unfold impl_inRange.f inB
  by_cases h : b ≤ a
  · rw [if_pos h]; simp [h]
  · rw [if_neg h]; simp [h]

def isR (a : Int) : Bool := inB 0 1114111 a && !inB 55296 57343 a
theorem gr_s (a : Int) : spec_GoodRune.f a = some (isR a) := by
  unfold spec_GoodRune.f isR
  rw [in_s, in_s]
  simp only [Option.bind_some]
  cases inB 0 1114111 a <;> simp

theorem gr_i (a : Int) : impl_GoodRune.f a = some (isR a) := by
  unfold impl_GoodRune.f isR
  rw [in_i, in_i]
  simp only [Option.bind_some]
  cases inB 0 1114111 a <;> simp

theorem l1All_l (lo hi : Int) (l : List Int) (hl : l.length ≤ 17592186044416) : ∀ (d j : Nat), j + d = l.length → Ev (fun k => spec_l1All.l0 k lo hi l (l.length : Int) (j : Int)) ((l.drop j).all (inB lo hi)) := by
  intro d
  induction d with
  | zero =>
    intro j hj
    refine Ev.step (f := fun _ => some ((l.drop j).all (inB lo hi))) (fun k => ?_) (Ev.now _)
    simp only [spec_l1All.l0]
    rw [if_neg (by omega), List.drop_of_length_le (by omega)]
    rfl
  | succ d ih =>
    intro j hj
    cases e : inB lo hi (l[j]'(by omega)) with
    | true =>
      refine Ev.step (f := fun k => spec_l1All.l0 k lo hi l (l.length : Int) ((j + 1 : Nat) : Int)) (fun k => ?_) ?_
      · simp only [spec_l1All.l0]
        rw [if_pos (by omega), if_pos (by omega), if_pos (by omega), rd_at l j (by omega), in_s, wr _ (by omega) (by omega), e]
        simp
      · rw [drop_at l j (by omega), List.all_cons, e, Bool.true_and]
        exact ih (j + 1) (by omega)
    | false =>
      refine Ev.step (f := fun _ => some ((l.drop j).all (inB lo hi))) (fun k => ?_) (Ev.now _)
      simp only [spec_l1All.l0]
      rw [if_pos (by omega), if_pos (by omega), if_pos (by omega), rd_at l j (by omega), in_s, e, drop_at l j (by omega), List.all_cons, e]
      simp

theorem l1All_ev (l : List Int) (hl : l.length ≤ 17592186044416) (lo hi : Int) : Ev (fun k => spec_l1All.f k l lo hi) (l.all (inB lo hi)) :=
  Ev.congr (fun k => by unfold spec_l1All.f; rfl) (l1All_l lo hi l hl l.length 0 (by omega))

/-- A set: pairs, each rising, each two ahead of the last one. -/
def Good : Int → List Int → Bool
  | least, a :: b :: r => decide (least ≤ a) && decide (a ≤ b) && decide (b ≤ 1114111) && Good (b + 2) r
  | _, [] => true
  | _, [_] => false

theorem good_mono (l : List Int) : ∀ (a b : Int), a ≤ b → Good b l = true → Good a l = true := by
  intro a b h hg
  match l with
  | [] => rfl
  | [_] => simp [Good] at hg
  | x :: y :: r =>
    simp only [Good, Bool.and_eq_true, decide_eq_true_eq] at hg ⊢
    exact ⟨⟨⟨by omega, hg.1.1.2⟩, hg.1.2⟩, hg.2⟩

/-- A set, with at most twelve spans. -/
def GoodS (l : List Int) : Bool := Good 0 l && decide (l.length ≤ 24)

theorem good_even (l : List Int) : ∀ a, Good a l = true → l.length % 2 = 0 := by
  match l with
  | [] => intro a _; rfl
  | [_] => intro a h; simp [Good] at h
  | x :: y :: r =>
    intro a h
    simp only [Good, Bool.and_eq_true] at h
    have := good_even r _ h.2
    simp only [List.length_cons]
    omega
termination_by l.length

theorem good_all (l : List Int) : ∀ a, 0 ≤ a → Good a l = true → ∀ x ∈ l, 0 ≤ x ∧ x ≤ 1114111 := by
  match l with
  | [] => intro a _ _ x hx; cases hx
  | [_] => intro a _ h; simp [Good] at h
  | y :: z :: r =>
    intro a ha h x hx
    simp [Good] at h
    simp only [List.mem_cons] at hx
    rcases hx with rfl | rfl | hx
    · omega
    · omega
    · exact good_all r (z + 2) (by omega) h.2 x hx
termination_by l.length

def lst (l : List Int) (j : Nat) : Int := if j = 0 then 0 else l.getD (j - 1) 0 + 2

theorem specSet_l (l : List Int) (hl : l.length ≤ 17592186044416) (hr : ∀ x ∈ l, 0 ≤ x ∧ x ≤ 1114111) : ∀ (d j : Nat), j + 2 * d = l.length → Ev (fun k => spec_GoodSet.l0 k l (j : Int)) (Good (lst l j) (l.drop j)) := by
  intro d
  induction d with
  | zero =>
    intro j hj
    refine Ev.step (f := fun _ => some (Good (lst l j) (l.drop j))) (fun k => ?_) (Ev.now _)
    simp only [spec_GoodSet.l0]
    rw [if_neg (by omega), List.drop_of_length_le (by omega)]
    rfl
  | succ d ih =>
    intro j hj
    have ha : 0 ≤ l[j]'(by omega) ∧ l[j]'(by omega) ≤ 1114111 := hr _ (List.getElem_mem _)
    have hb : 0 ≤ l[j + 1]'(by omega) ∧ l[j + 1]'(by omega) ≤ 1114111 := hr _ (List.getElem_mem _)
    have e1 : wrap64 ((j : Int) + 1) = ((j + 1 : Nat) : Int) := by rw [wr _ (by omega) (by omega)]; omega
    have e2 : wrap64 ((j : Int) + 2) = ((j + 2 : Nat) : Int) := by rw [wr _ (by omega) (by omega)]; omega
    have hd : l.drop j = l[j]'(by omega) :: l[j + 1]'(by omega) :: l.drop (j + 2) := by rw [drop_at l j (by omega), drop_at l (j + 1) (by omega)]
    have hn : lst l (j + 2) = l[j + 1]'(by omega) + 2 := by
      unfold lst
      rw [if_neg (by omega), show j + 2 - 1 = j + 1 from by omega, getD_at l (j + 1) (by omega)]
    have ih' := ih (j + 2) (by omega)
    rw [hn] at ih'
    have hg : Good (lst l j) (l.drop j) = (decide (lst l j ≤ l[j]'(by omega)) && decide (l[j]'(by omega) ≤ l[j + 1]'(by omega)) && decide (l[j + 1]'(by omega) ≤ 1114111) && Good (l[j + 1]'(by omega) + 2) (l.drop (j + 2))) := by
      rw [hd, Good]
    rw [hg]
    by_cases h1 : l[j]'(by omega) > l[j + 1]'(by omega)
    · refine Ev.step (f := fun _ => some false) (fun k => ?_) ?_
      · simp only [spec_GoodSet.l0]
        rw [e1, if_pos (by omega), if_pos (by omega), if_pos (by omega), if_pos (by omega), rd_at l j (by omega), rd_at l (j + 1) (by omega), if_pos h1]
      · rw [show decide (l[j]'(by omega) ≤ l[j + 1]'(by omega)) = false from decide_eq_false (by omega)]
        simpa using Ev.now false
    · rw [show decide (l[j]'(by omega) ≤ l[j + 1]'(by omega)) = true from decide_eq_true (by omega), show decide (l[j + 1]'(by omega) ≤ 1114111) = true from decide_eq_true (by omega)]
      by_cases h0 : j = 0
      · subst h0
        rw [show decide (lst l 0 ≤ l[0]'(by omega)) = true from decide_eq_true (by unfold lst; simp; omega)]
        refine Ev.step (f := fun k => spec_GoodSet.l0 k l ((0 + 2 : Nat) : Int)) (fun k => ?_) (by simpa using ih')
        simp only [spec_GoodSet.l0]
        rw [e1, if_pos (by omega), if_pos (by omega), if_pos (by omega), if_pos (by omega), rd_at l 0 (by omega), rd_at l (0 + 1) (by omega), if_neg h1, if_neg (by omega), e2]
      · have e3 : wrap64 ((j : Int) - 1) = ((j - 1 : Nat) : Int) := by rw [wr _ (by omega) (by omega)]; omega
        have hp : 0 ≤ l[j - 1]'(by omega) ∧ l[j - 1]'(by omega) ≤ 1114111 := hr _ (List.getElem_mem _)
        have hs : lst l j = l[j - 1]'(by omega) + 2 := by unfold lst; rw [if_neg h0, getD_at l (j - 1) (by omega)]
        rw [hs]
        by_cases h2 : l[j]'(by omega) < l[j - 1]'(by omega) + 2
        · refine Ev.step (f := fun _ => some false) (fun k => ?_) ?_
          · simp only [spec_GoodSet.l0]
            rw [e1, if_pos (by omega), if_pos (by omega), if_pos (by omega), if_pos (by omega), rd_at l j (by omega), rd_at l (j + 1) (by omega), if_neg h1, if_pos (by omega), e3, if_pos (by omega), if_pos (by omega), rd_at l (j - 1) (by omega), wr (l[j - 1]'(by omega) + 2) (by omega) (by omega), if_pos h2]
          · rw [show decide (l[j - 1]'(by omega) + 2 ≤ l[j]'(by omega)) = false from decide_eq_false (by omega)]
            simpa using Ev.now false
        · refine Ev.step (f := fun k => spec_GoodSet.l0 k l ((j + 2 : Nat) : Int)) (fun k => ?_) ?_
          · simp only [spec_GoodSet.l0]
            rw [e1, if_pos (by omega), if_pos (by omega), if_pos (by omega), if_pos (by omega), rd_at l j (by omega), rd_at l (j + 1) (by omega), if_neg h1, if_pos (by omega), e3, if_pos (by omega), if_pos (by omega), rd_at l (j - 1) (by omega), wr (l[j - 1]'(by omega) + 2) (by omega) (by omega), if_neg h2, e2]
          · rw [show decide (l[j - 1]'(by omega) + 2 ≤ l[j]'(by omega)) = true from decide_eq_true (by omega)]
            simpa using ih'

theorem goodS_bad (l : List Int) (h : ¬ (l.length % 2 = 0 ∧ l.length ≤ 24 ∧ l.all (inB 0 1114111) = true)) : GoodS l = false := by
  cases hg : GoodS l with
  | false => rfl
  | true =>
    unfold GoodS at hg
    rw [Bool.and_eq_true, decide_eq_true_eq] at hg
    refine absurd ⟨good_even l 0 hg.1, hg.2, ?_⟩ h
    rw [List.all_eq_true]
    intro x hx
    exact (inB_iff _ _ _).2 (good_all l 0 (by omega) hg.1 x hx)

theorem specSet_ev (l : List Int) (hl : l.length ≤ 17592186044416) : Ev (fun k => spec_GoodSet.f k l) (GoodS l) := by
  have jt : Ev (fun k => spec_GoodSet.j0 k l true) false := Ev.step (f := fun _ => some false) (fun k => by simp [spec_GoodSet.j0]) (Ev.now _)
  unfold spec_GoodSet.f
  by_cases h1 : l.length % 2 = 1
  · rw [goodS_bad l (by omega)]
    exact Ev.congr (fun k => by rw [if_pos (by omega)]) jt
  · by_cases h2 : l.length ≤ 24
    · refine Ev.congr (f := fun k => (spec_l1All.f k l 0 1114111).bind fun t => spec_GoodSet.j0 k l (!t)) (fun k => by rw [if_neg (by omega), if_neg (by omega)]) ?_
      refine Ev.bind (l1All_ev l hl 0 1114111) ?_
      cases ha : l.all (inB 0 1114111) with
      | false =>
        rw [goodS_bad l (by rw [ha]; simp)]
        exact jt
      | true =>
        refine Ev.step (f := fun k => spec_GoodSet.l0 k l ((0 : Nat) : Int)) (fun k => by simp [spec_GoodSet.j0]) ?_
        have := specSet_l l hl (fun x hx => (inB_iff _ _ _).1 (List.all_eq_true.1 ha x hx)) (l.length / 2) 0 (by omega)
        have e : GoodS l = Good (lst l 0) (l.drop 0) := by unfold GoodS lst; simp [h2]
        rw [e]
        exact this
    · rw [goodS_bad l (by omega)]
      exact Ev.congr (fun k => by rw [if_neg (by omega), if_pos (by omega)]) jt

/-- As the program asks it: number by number. -/
def GA : Bool → Int → List Int → Bool
  | _, _, [] => true
  | p, least, n :: r => inB least 1114111 n && GA (!p) (if p = true then n else n + 2) r

theorem ga_good (l : List Int) : ∀ a, l.length % 2 = 0 → GA true a l = Good a l := by
  match l with
  | [] => intro a _; rfl
  | [_] => intro a h; simp at h
  | x :: y :: r =>
    intro a h
    have ih := ga_good r (y + 2) (by simp only [List.length_cons] at h; omega)
    simp only [GA, Good, Bool.not_true, if_true, Bool.not_false, Bool.false_eq_true, if_false, ih]
    rw [Bool.eq_iff_iff]
    simp only [Bool.and_eq_true, inB_iff, decide_eq_true_eq]
    refine ⟨fun ⟨⟨h1, h2⟩, h3, h4⟩ => ⟨⟨⟨h1, h3.1⟩, h3.2⟩, h4⟩, fun ⟨⟨⟨h1, h2⟩, h3⟩, h4⟩ => ⟨⟨h1, by omega⟩, ⟨h2, h3⟩, h4⟩⟩
termination_by l.length

def lsi (l : List Int) (j : Nat) : Int := if j = 0 then 0 else if j % 2 = 0 then l.getD (j - 1) 0 + 2 else l.getD (j - 1) 0

theorem implSet_l (l : List Int) (hl : l.length ≤ 17592186044416) : ∀ (d j : Nat), j + d = l.length → (j ≠ 0 → l.getD (j - 1) 0 ≤ 1114111) → (j ≠ 0 → 0 ≤ l.getD (j - 1) 0) →
    Ev (fun k => impl_GoodSet.l0 k l l (l.length : Int) (j : Int)) (GA (j % 2 == 0) (lsi l j) (l.drop j) && decide (l.length % 2 = 0 ∧ l.length ≤ 24)) := by
  intro d
  induction d with
  | zero =>
    intro j hj _ _
    refine Ev.step (f := fun _ => some (GA (j % 2 == 0) (lsi l j) (l.drop j) && decide (l.length % 2 = 0 ∧ l.length ≤ 24))) (fun k => ?_) (Ev.now _)
    simp only [impl_GoodSet.l0]
    rw [if_neg (by omega), List.drop_of_length_le (by omega)]
    simp only [GA, Bool.true_and]
    by_cases h : l.length % 2 = 0
    · rw [if_pos (by omega)]
      simp [h]
      omega
    · rw [if_neg (by omega)]
      simp [h]
  | succ d ih =>
    intro j hj hp0 hp1
    have e1 : wrap64 ((j : Int) + 1) = ((j + 1 : Nat) : Int) := by rw [wr _ (by omega) (by omega)]; omega
    rw [drop_at l j (by omega), GA]
    have fin : ∀ (g : Nat → Option Bool), (∀ k, g (k + 1) = (impl_inRange.f (l[j]'(by omega)) (lsi l j) 1114111).bind fun t => if t = true then impl_GoodSet.l0 k l l (l.length : Int) (wrap64 ((j : Int) + 1)) else some false) →
        Ev g ((inB (lsi l j) 1114111 (l[j]'(by omega)) && GA (!(j % 2 == 0)) (if (j % 2 == 0) = true then l[j]'(by omega) else l[j]'(by omega) + 2) (l.drop (j + 1))) && decide (l.length % 2 = 0 ∧ l.length ≤ 24)) := by
      intro g hg
      cases hi : inB (lsi l j) 1114111 (l[j]'(by omega)) with
      | false =>
        refine Ev.step (f := fun _ => some false) (fun k => ?_) (by simpa using Ev.now false)
        rw [hg, in_i, hi]
        simp
      | true =>
        have hb := (inB_iff _ _ _).1 hi
        have h0 : 0 ≤ lsi l j := by
          unfold lsi
          by_cases z : j = 0
          · rw [if_pos z]; omega
          · have := hp1 z
            rw [if_neg z]
            by_cases z2 : j % 2 = 0
            · rw [if_pos z2]; omega
            · rw [if_neg z2]; omega
        refine Ev.step (f := fun k => impl_GoodSet.l0 k l l (l.length : Int) ((j + 1 : Nat) : Int)) (fun k => ?_) ?_
        · rw [hg, in_i, hi, e1]
          simp
        · have hq : l.getD (j + 1 - 1) 0 = l[j]'(by omega) := by rw [show j + 1 - 1 = j from by omega, getD_at l j (by omega)]
          have := ih (j + 1) (by omega) (fun _ => by rw [hq]; omega) (fun _ => by rw [hq]; omega)
          have es : lsi l (j + 1) = if (j % 2 == 0) = true then l[j]'(by omega) else l[j]'(by omega) + 2 := by
            unfold lsi
            rw [if_neg (by omega), hq]
            by_cases z : j % 2 = 0
            · rw [if_neg (by omega), if_pos (by simpa using z)]
            · rw [if_pos (by omega), if_neg (by simpa using z)]
          have ep : ((j + 1) % 2 == 0) = !(j % 2 == 0) := by
            by_cases z : j % 2 = 0
            · have : ¬ (j + 1) % 2 = 0 := by omega
              simp [z, this]
            · have : (j + 1) % 2 = 0 := by omega
              simp [z, this]
          rw [es, ep] at this
          rw [Bool.true_and]
          exact this
    by_cases z : j = 0
    · subst z
      refine Ev.step (f := fun k => impl_GoodSet.j1 k l ((0 : Nat) : Int) (l[0]'(by omega)) 0 l (l.length : Int) ((0 : Nat) : Int) false) (fun k => ?_) (fin _ fun k => ?_)
      · simp only [impl_GoodSet.l0]
        rw [if_pos (by omega), if_pos (by omega), if_pos (by omega), if_neg (by omega), rd_at l 0 (by omega)]
      · simp only [impl_GoodSet.j1]
        rw [if_neg (by simp), if_neg (by omega)]
        rfl
    · have e3 : wrap64 ((j : Int) - 1) = ((j - 1 : Nat) : Int) := by rw [wr _ (by omega) (by omega)]; omega
      have q0 := hp0 z
      have q1 := hp1 z
      have et : ((Int.tmod (j : Int) 2) == 0) = (j % 2 == 0) := by
        rw [show (2 : Int) = ((2 : Nat) : Int) from rfl, ← Int.ofNat_tmod, Bool.eq_iff_iff]
        simp only [beq_iff_eq]
        omega
      refine Ev.step (f := fun k => impl_GoodSet.j1 k l (j : Int) (l[j]'(by omega)) 0 l (l.length : Int) (j : Int) (j % 2 == 0)) (fun k => ?_) (fin _ fun k => ?_)
      · simp only [impl_GoodSet.l0]
        rw [if_pos (by omega), if_pos (by omega), if_pos (by omega), if_pos (by omega), rd_at l j (by omega), et]
      · simp only [impl_GoodSet.j1]
        by_cases z2 : j % 2 = 0
        · rw [if_pos (by simpa using z2), e3, if_pos (by omega), if_pos (by omega), rd_nat, wr (l.getD (j - 1) 0 + 2) (by omega) (by omega)]
          unfold lsi
          rw [if_neg z, if_pos z2]
        · rw [if_neg (by simpa using z2), if_pos (by omega), e3, if_pos (by omega), if_pos (by omega), rd_nat]
          unfold lsi
          rw [if_neg z, if_neg z2]

theorem implSet_ev (l : List Int) (hl : l.length ≤ 17592186044416) : Ev (fun k => impl_GoodSet.f k l) (GoodS l) := by
  have h := implSet_l l hl l.length 0 (by omega) (fun h => absurd rfl h) (fun h => absurd rfl h)
  have e : GoodS l = (GA (0 % 2 == 0) (lsi l 0) (l.drop 0) && decide (l.length % 2 = 0 ∧ l.length ≤ 24)) := by
    by_cases hev : l.length % 2 = 0
    · show (Good 0 l && decide (l.length ≤ 24)) = (GA true 0 l && _)
      rw [ga_good l 0 hev]
      simp [hev]
    · rw [goodS_bad l (by omega)]
      simp [hev]
  rw [e]
  exact Ev.congr (fun k => by unfold impl_GoodSet.f; rfl) h

theorem goodS_facts (l : List Int) (h : GoodS l = true) : l.length ≤ 24 ∧ l.length % 2 = 0 ∧ ∀ x ∈ l, 0 ≤ x ∧ x ≤ 1114111 := by
  unfold GoodS at h
  rw [Bool.and_eq_true, decide_eq_true_eq] at h
  exact ⟨h.2, good_even l 0 h.1, good_all l 0 (by omega) h.1⟩

/-- The spans of a set. -/
def spansV : List Int → List S52
  | a :: b :: r => ⟨a, b⟩ :: spansV r
  | _ => []

theorem spansV_length (l : List Int) : (spansV l).length ≤ l.length := by
  match l with
  | [] => simp [spansV]
  | [_] => simp [spansV]
  | a :: b :: r =>
    have := spansV_length r
    simp only [spansV, List.length_cons]
    omega
termination_by l.length

theorem spansOf_l (l : List Int) (hl : l.length ≤ 4398046511104) : ∀ (d j : Nat) (acc : List S52), l.length ≤ j + 2 * d → j ≤ l.length + 1 → acc.length ≤ j → Ev (fun k => impl_spansOf.l0 k l acc (j : Int)) (acc ++ spansV (l.drop j)) := by
  intro d
  induction d with
  | zero =>
    intro j acc hj hj2 ha
    refine Ev.step (f := fun _ => some (acc ++ spansV (l.drop j))) (fun k => ?_) (Ev.now _)
    simp only [impl_spansOf.l0]
    rw [wr _ (by omega) (by omega), if_neg (by omega), List.drop_of_length_le (by omega)]
    simp [spansV]
  | succ d ih =>
    intro j acc hj hj2 ha
    have e1 : wrap64 ((j : Int) + 1) = ((j + 1 : Nat) : Int) := by rw [wr _ (by omega) (by omega)]; omega
    have e2 : wrap64 ((j : Int) + 2) = ((j + 2 : Nat) : Int) := by rw [wr _ (by omega) (by omega)]; omega
    by_cases h : j + 1 < l.length
    · refine Ev.step (f := fun k => impl_spansOf.l0 k l (acc ++ [(⟨l[j]'(by omega), l[j + 1]'(by omega)⟩ : S52)]) ((j + 2 : Nat) : Int)) (fun k => ?_) ?_
      · simp only [impl_spansOf.l0]
        rw [e1, if_pos (by omega), if_pos (by omega), if_pos (by omega), if_pos (by omega), if_pos (by omega), rd_at l j (by omega), rd_at l (j + 1) (by omega), e2]
      · have := ih (j + 2) (acc ++ [(⟨l[j]'(by omega), l[j + 1]'(by omega)⟩ : S52)]) (by omega) (by omega) (by simp; omega)
        rw [drop_at l j (by omega), drop_at l (j + 1) (by omega)]
        simpa only [spansV, List.append_assoc, List.singleton_append] using this
    · refine Ev.step (f := fun _ => some (acc ++ spansV (l.drop j))) (fun k => ?_) (Ev.now _)
      simp only [impl_spansOf.l0]
      rw [e1, if_neg (by omega)]
      have : spansV (l.drop j) = [] := by
        by_cases z : j < l.length
        · rw [drop_at l j z, List.drop_of_length_le (by omega)]
          rfl
        · rw [List.drop_of_length_le (by omega)]
          rfl
      rw [this, List.append_nil]

theorem spansOf_ev (l : List Int) (hl : l.length ≤ 4398046511104) : Ev (fun k => impl_spansOf.f k l) (spansV l) :=
  Ev.congr (fun k => by unfold impl_spansOf.f; rfl) (by simpa using spansOf_l l hl (l.length) 0 [] (by omega) (by omega) (by simp))

theorem rdS_at (l : List S52) (j : Nat) (h : j < l.length) : rd_T52 l (j : Int) = l[j] := by unfold rd_T52; simp [List.getD_eq_getElem?_getD, h]

/-- Is a number in a set? -/
def memV (r : Int) : List Int → Bool
  | a :: b :: t => inB a b r || memV r t
  | _ => false

theorem specIn_l (l : List Int) (r : Int) (hl : l.length ≤ 4398046511104) : ∀ (d j : Nat), j + 2 * d = l.length → Ev (fun k => spec_l4In.l0 k l r (j : Int)) (memV r (l.drop j)) := by
  intro d
  induction d with
  | zero =>
    intro j hj
    refine Ev.step (f := fun _ => some (memV r (l.drop j))) (fun k => ?_) (Ev.now _)
    simp only [spec_l4In.l0]
    rw [if_neg (by omega), List.drop_of_length_le (by omega)]
    rfl
  | succ d ih =>
    intro j hj
    have e1 : wrap64 ((j : Int) + 1) = ((j + 1 : Nat) : Int) := by rw [wr _ (by omega) (by omega)]; omega
    have e2 : wrap64 ((j : Int) + 2) = ((j + 2 : Nat) : Int) := by rw [wr _ (by omega) (by omega)]; omega
    have hd : l.drop j = l[j]'(by omega) :: l[j + 1]'(by omega) :: l.drop (j + 2) := by rw [drop_at l j (by omega), drop_at l (j + 1) (by omega)]
    rw [hd, memV]
    cases h : inB (l[j]'(by omega)) (l[j + 1]'(by omega)) r with
    | true =>
      refine Ev.step (f := fun _ => some true) (fun k => ?_) (by simpa using Ev.now true)
      simp only [spec_l4In.l0]
      rw [e1, if_pos (by omega), if_pos (by omega), if_pos (by omega), if_pos (by omega), rd_at l j (by omega), rd_at l (j + 1) (by omega), in_s, h]
      simp
    | false =>
      refine Ev.step (f := fun k => spec_l4In.l0 k l r ((j + 2 : Nat) : Int)) (fun k => ?_) (by simpa using ih (j + 2) (by omega))
      simp only [spec_l4In.l0]
      rw [e1, if_pos (by omega), if_pos (by omega), if_pos (by omega), if_pos (by omega), rd_at l j (by omega), rd_at l (j + 1) (by omega), in_s, h, e2]
      simp

theorem specIn_ev (l : List Int) (r : Int) (hl : l.length ≤ 4398046511104) (he : l.length % 2 = 0) : Ev (fun k => spec_l4In.f k l r) (memV r l) :=
  Ev.congr (fun k => by unfold spec_l4In.f; rfl) (by simpa using specIn_l l r hl (l.length / 2) 0 (by omega))

theorem inSpans_mem (r : Int) (l : List Int) : inSpans r (spansV l) = memV r l := by
  match l with
  | [] => rfl
  | [_] => rfl
  | a :: b :: t =>
    have ih := inSpans_mem r t
    unfold inSpans at ih ⊢
    simp only [spansV, memV, List.any_cons, ih]
    rfl
termination_by l.length

theorem implIn_ev (l : List Int) (r : Int) (hl : l.length ≤ 4398046511104) : Ev (fun k => impl_inSet.f k l r) (memV r l) := by
  unfold impl_inSet.f
  refine Ev.bind (spansOf_ev l hl) ?_
  rw [inSpans_mem]
  exact Ev.now _

/-- InSet. -/
def inR (l : List Int) (r : Int) : Bool × Bool := if GoodS l = true then if isR r = true then (memV r l, true) else (false, false) else (false, false)
theorem specInSet_ev (l : List Int) (r : Int) (hl : l.length ≤ 4398046511104) : Ev (fun k => spec_InSet.f k l r) (inR l r) := by
  unfold spec_InSet.f inR
  refine Ev.bind (specSet_ev l (by omega)) ?_
  cases hg : GoodS l with
  | false => exact Ev.congr (fun k => by rw [if_neg (by simp)]) (by simpa using Ev.now (false, false))
  | true =>
    obtain ⟨h1, h2, h3⟩ := goodS_facts l hg
    rw [gr_s]
    refine Ev.congr (fun k => by rw [if_pos rfl, Option.bind_some]) ?_
    cases isR r with
    | false => exact Ev.congr (fun k => by rw [if_neg (by simp)]) (by simpa using Ev.now (false, false))
    | true => exact Ev.congr (fun k => by rw [if_pos rfl]) (Ev.bind (specIn_ev l r hl h2) (by simpa using Ev.now (memV r l, true)))
theorem implInSet_ev (l : List Int) (r : Int) (hl : l.length ≤ 4398046511104) : Ev (fun k => impl_InSet.f k l r) (inR l r) := by
  unfold impl_InSet.f inR
  refine Ev.bind (implSet_ev l (by omega)) ?_
  cases hg : GoodS l with
  | false => exact Ev.congr (fun k => by rw [if_neg (by simp)]) (by simpa using Ev.now (false, false))
  | true =>
    rw [gr_i]
    refine Ev.congr (fun k => by rw [if_pos rfl, Option.bind_some]) ?_
    cases isR r with
    | false => exact Ev.congr (fun k => by rw [if_neg (by simp)]) (by simpa using Ev.now (false, false))
    | true => exact Ev.congr (fun k => by rw [if_pos rfl]) (Ev.bind (implIn_ev l r hl) (by simpa using Ev.now (memV r l, true)))

theorem FnExactInSet : laws_FnExactInSet.Pure := by
  intro l r hm hs _ _
  refine Ev.rounds (r := true) ?_
  unfold laws_FnExactInSet.f
  by_cases h : (l.length : Int) > 1048576
  · exact Ev.congr (fun k => by rw [if_pos h]) (Ev.now true)
  · refine Ev.congr (fun k => by rw [if_neg h]) ?_
    have hl : l.length ≤ 17592186044416 := by omega
    refine Ev.bind (toIntS_ev l hl) (Ev.bind (specInSet_ev l r (by omega)) (Ev.bind (toIntS_ev l hl) (Ev.bind (implInSet_ev l r (by omega)) ?_)))
    refine Ev.congr (f := fun k => laws_FnExactInSet.j0 k l l false) (fun k => by simp) ?_
    refine Ev.step (fun k => by simp only [laws_FnExactInSet.j0]; rw [if_neg (by simp)]) ?_
    refine Ev.bind (toIntS_ev l hl) (Ev.bind (eqIntS_ev l l hl) ?_)
    exact Ev.congr (fun k => by rw [if_pos (by simp)]) (Ev.now true)

end Go.Proofs.Ytepeimabodnmiaa.Pure
