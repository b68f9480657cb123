/-
  For every input the law FnExactFoldSet returns true; no condition.
-/
import Derived.Test.YthincjdobjccfaaHFnExactFoldSetx11
namespace Go.Proofs.Ythincjdobjccfaa.Pure
open Go.RowKit Go.Proofs.Ythincjdobjccfaa.HFnExactFoldSet Go.Proofs.YthincjdobjccfaaW.PrintWords Go.Proofs.YthincjdobjccfaaW.PrintLast
set_option linter.unusedSimpArgs false
set_option linter.unusedVariables false
theorem wr (i : Int) (h0 : -9223372036854775808 ≤ i) (h1 : i ≤ 9223372036854775807) : wrap64 i = i := by unfold wrap64; omega

theorem rd_nat (l : List Int) (j : Nat) : rd l (j : Int) = l.getD j 0 := by unfold rd; simp

theorem getD_at (l : List Int) (j : Nat) (h : j < l.length) : l.getD j 0 = l[j] := by simp [List.getD_eq_getElem?_getD, h]

theorem rd_at (l : List Int) (j : Nat) (h : j < l.length) : rd l (j : Int) = l[j] := by rw [rd_nat, getD_at l j h]

theorem drop_at (l : List Int) (j : Nat) (h : j < l.length) : l.drop j = l[j] :: l.drop (j + 1) := List.drop_eq_getElem_cons h

theorem toIntS_l (l : List Int) (hl : l.length ≤ 17592186044416) : ∀ (d j : Nat) (o : List Int), j + d = l.length → o.length = l.length → (∀ i, i < j → o.getD i 0 = l.getD i 0) → Ev (fun k => laws_toIntS.l0 k l o (j : Int)) l := by
  intro d
  induction d with
  | zero =>
    intro j o hj ho he
    refine Ev.step (f := fun _ => some l) (fun k => ?_) (Ev.now l)
    simp only [laws_toIntS.l0]
    rw [if_neg (by omega)]
    congr 1
    refine List.ext_getElem (by omega) fun i h1 h2 => ?_
    have := he i (by omega)
    rwa [getD_at o i h1, getD_at l i h2] at this
  | succ d ih =>
    intro j o hj ho he
    refine Ev.step (f := fun k => laws_toIntS.l0 k l (o.set j (l.getD j 0)) ((j + 1 : Nat) : Int)) (fun k => ?_) (ih (j + 1) _ (by omega) (by rw [List.length_set]; exact ho) fun i hi => ?_)
    · simp only [laws_toIntS.l0]
      rw [if_pos (by omega), if_pos (by omega), if_pos (by omega), wr _ (by omega) (by omega), rd_nat]
      simp
    · by_cases e : i = j
      · subst e
        rw [getD_at _ _ (by rw [List.length_set]; omega)]
        simp
      · rw [← he i (by omega)]
        simp [List.getD_eq_getElem?_getD, List.getElem?_set, Ne.symm e]

theorem toIntS_ev (l : List Int) (hl : l.length ≤ 17592186044416) : Ev (fun k => laws_toIntS.f k l) l := by
  refine Ev.congr (f := fun k => laws_toIntS.l0 k l (List.replicate l.length 0) ((0 : Nat) : Int)) (fun k => ?_) (toIntS_l l hl l.length 0 _ (by omega) (by simp) (fun i hi => by omega))
  unfold laws_toIntS.f
  rw [if_pos (by omega), if_pos (by omega)]
  simp

theorem eqIntS_l (a b : List Int) (hab : a.length = b.length) (hl : a.length ≤ 17592186044416) : ∀ (d j : Nat), j + d = a.length → a.take j = b.take j → Ev (fun k => laws_eqIntS.l0 k a b (j : Int)) (decide (a = b)) := by
  intro d
  induction d with
  | zero =>
    intro j hj ht
    refine Ev.step (f := fun _ => some (decide (a = b))) (fun k => ?_) (Ev.now _)
    simp only [laws_eqIntS.l0]
    rw [if_neg (by omega)]
    rw [List.take_of_length_le (by omega), List.take_of_length_le (by omega)] at ht
    simp [ht]
  | succ d ih =>
    intro j hj ht
    by_cases e : a[j]'(by omega) = b[j]'(by omega)
    · refine Ev.step (f := fun k => laws_eqIntS.l0 k a b ((j + 1 : Nat) : Int)) (fun k => ?_) (ih (j + 1) (by omega) ?_)
      · simp only [laws_eqIntS.l0]
        rw [if_pos (by omega), if_pos (by omega), if_pos (by omega), rd_at a j (by omega), rd_at b j (by omega), if_pos e, wr _ (by omega) (by omega)]
        simp
      · rw [List.take_succ_eq_append_getElem (by omega), List.take_succ_eq_append_getElem (by omega), ht, e]
    · refine Ev.step (f := fun _ => some (decide (a = b))) (fun k => ?_) (Ev.now _)
      simp only [laws_eqIntS.l0]
      rw [if_pos (by omega), if_pos (by omega), if_pos (by omega), rd_at a j (by omega), rd_at b j (by omega), if_neg e]
      have : ¬ a = b := fun h => e (by subst h; rfl)
      simp [this]

theorem eqIntS_ev (a b : List Int) (hl : a.length ≤ 17592186044416) : Ev (fun k => laws_eqIntS.f k a b) (decide (a = b)) := by
  by_cases h : a.length = b.length
  · refine Ev.congr (f := fun k => laws_eqIntS.l0 k a b ((0 : Nat) : Int)) (fun k => ?_) (eqIntS_l a b h hl a.length 0 (by omega) (by simp))
    unfold laws_eqIntS.f
    rw [if_pos (by omega)]
    simp
  · refine Ev.congr (f := fun _ => some (decide (a = b))) (fun k => ?_) (Ev.now _)
    unfold laws_eqIntS.f
    rw [if_neg (by omega)]
    have : ¬ a = b := fun e => h (by rw [e])
    simp [this]

/-- Within bounds. -/
def inB (lo hi n : Int) : Bool := decide (lo ≤ n ∧ n ≤ hi)
theorem inB_iff (lo hi n : Int) : inB lo hi n = true ↔ lo ≤ n ∧ n ≤ hi := by simp [inB]

theorem in_s (a b c : Int) : spec_l1In.f a b c = some (inB b c a) := by
  unfold spec_l1In.f inB
  by_cases h : a ≥ b
  · rw [if_pos h]; simp [show b ≤ a from h]
  · rw [if_neg h]; simp [show ¬ b ≤ a from h]

theorem in_i (a b c : Int) : impl_inRange.f a b c = some (inB b c a) := by
  unfold impl_inRange.f inB
  by_cases h : b ≤ a
  · rw [if_pos h]; simp [h]
  · rw [if_neg h]; simp [h]

def iota (m : Int) (n : Nat) : List Int := (List.range n).map fun (i : Nat) => m + (i : Int)
theorem iota_length (m : Int) (n : Nat) : (iota m n).length = n := by simp [iota]
theorem iota_get (m : Int) (n i : Nat) (h : i < n) : (iota m n).getD i 0 = m + (i : Int) := by simp [iota, List.getD_eq_getElem?_getD, h]

theorem markIntS_l (m : Int) (n : Nat) (hm : 0 ≤ m) (hn : m + (n : Int) ≤ 4611686018427387904) : ∀ (d j : Nat) (o : List Int), j + d = n → o.length = n → (∀ i, i < j → o.getD i 0 = m + (i : Int)) → Ev (fun k => laws_markIntS.l0 k o (m + (j : Int)) (j : Int)) (m + (n : Int), iota m n) := by
  intro d
  induction d with
  | zero =>
    intro j o hj ho he
    refine Ev.step (f := fun _ => some (m + (n : Int), iota m n)) (fun k => ?_) (Ev.now _)
    simp only [laws_markIntS.l0]
    rw [if_neg (by omega)]
    have e : o = iota m n := by
      refine List.ext_getElem (by rw [iota_length]; exact ho) fun i h1 h2 => ?_
      have h3 := he i (by omega)
      rw [← iota_get m n i (by omega), getD_at o i h1, getD_at _ i h2] at h3
      exact h3
    rw [e, show j = n from by omega]
  | succ d ih =>
    intro j o hj ho he
    refine Ev.step (f := fun k => laws_markIntS.l0 k (o.set j (m + (j : Int))) (m + ((j + 1 : Nat) : Int)) ((j + 1 : Nat) : Int)) (fun k => ?_) (ih (j + 1) _ (by omega) (by rw [List.length_set]; exact ho) fun i hi => ?_)
    · simp only [laws_markIntS.l0]
      rw [if_pos (by omega), if_pos (by omega), wr ((j : Int) + 1) (by omega) (by omega), wr (m + (j : Int) + 1) (by omega) (by omega)]
      simp [Int.add_assoc]
    · by_cases e : i = j
      · subst e
        rw [getD_at _ _ (by rw [List.length_set]; omega)]
        simp
      · rw [← he i (by omega)]
        simp [List.getD_eq_getElem?_getD, List.getElem?_set, Ne.symm e]

theorem markIntS_ev (l : List Int) (m : Int) (hm : 0 ≤ m) (hn : m + (l.length : Int) ≤ 4611686018427387904) : Ev (fun k => laws_markIntS.f k l m) (m + (l.length : Int), iota m l.length) :=
  Ev.congr (fun k => by unfold laws_markIntS.f; simp) (markIntS_l m l.length hm hn l.length 0 l (by omega) rfl (fun i hi => by omega))

theorem heldIntS_l (m : Int) (n : Nat) (hm : 0 ≤ m) (hn : m + (n : Int) ≤ 4611686018427387904) : ∀ (d j : Nat), j + d = n → Ev (fun k => laws_heldIntS.l0 k (iota m n) (m + (j : Int)) (j : Int)) (m + (n : Int)) := by
  intro d
  induction d with
  | zero =>
    intro j hj
    refine Ev.step (f := fun _ => some (m + (n : Int))) (fun k => ?_) (Ev.now _)
    simp only [laws_heldIntS.l0]
    rw [if_neg (by rw [iota_length]; omega), show j = n from by omega]
  | succ d ih =>
    intro j hj
    refine Ev.step (f := fun k => laws_heldIntS.l0 k (iota m n) (m + ((j + 1 : Nat) : Int)) ((j + 1 : Nat) : Int)) (fun k => ?_) (ih (j + 1) (by omega))
    simp only [laws_heldIntS.l0]
    rw [if_pos (by rw [iota_length]; omega), if_pos (by omega), rd_nat, iota_get m n j (by omega), if_pos rfl, wr ((j : Int) + 1) (by omega) (by omega), wr (m + (j : Int) + 1) (by omega) (by omega)]
    simp [Int.add_assoc]

theorem heldIntS_ev (m : Int) (n : Nat) (hm : 0 ≤ m) (hn : m + (n : Int) ≤ 4611686018427387904) : Ev (fun k => laws_heldIntS.f k (iota m n) m) (m + (n : Int)) :=
  Ev.congr (fun k => by unfold laws_heldIntS.f; simp) (heldIntS_l m n hm hn n 0 (by omega))

theorem l1All_l (lo hi : Int) (l : List Int) (hl : l.length ≤ 17592186044416) : ∀ (d j : Nat), j + d = l.length → Ev (fun k => spec_l1All.l0 k lo hi l (l.length : Int) (j : Int)) ((l.drop j).all (inB lo hi)) := by
  intro d
  induction d with
  | zero =>
    intro j hj
    refine Ev.step (f := fun _ => some ((l.drop j).all (inB lo hi))) (fun k => ?_) (Ev.now _)
    simp only [spec_l1All.l0]
    rw [if_neg (by omega), List.drop_of_length_le (by omega)]
    rfl
  | succ d ih =>
    intro j hj
    cases e : inB lo hi (l[j]'(by omega)) with
    | true =>
      refine Ev.step (f := fun k => spec_l1All.l0 k lo hi l (l.length : Int) ((j + 1 : Nat) : Int)) (fun k => ?_) ?_
      · simp only [spec_l1All.l0]
        rw [if_pos (by omega), if_pos (by omega), if_pos (by omega), rd_at l j (by omega), in_s, wr _ (by omega) (by omega), e]
        simp
      · rw [drop_at l j (by omega), List.all_cons, e, Bool.true_and]
        exact ih (j + 1) (by omega)
    | false =>
      refine Ev.step (f := fun _ => some ((l.drop j).all (inB lo hi))) (fun k => ?_) (Ev.now _)
      simp only [spec_l1All.l0]
      rw [if_pos (by omega), if_pos (by omega), if_pos (by omega), rd_at l j (by omega), in_s, e, drop_at l j (by omega), List.all_cons, e]
      simp

theorem l1All_ev (l : List Int) (hl : l.length ≤ 17592186044416) (lo hi : Int) : Ev (fun k => spec_l1All.f k l lo hi) (l.all (inB lo hi)) :=
  Ev.congr (fun k => by unfold spec_l1All.f; rfl) (l1All_l lo hi l hl l.length 0 (by omega))

/-- A set: pairs, each rising, each two ahead of the last one. -/
def Good : Int → List Int → Bool
  | least, a :: b :: r => decide (least ≤ a) && decide (a ≤ b) && decide (b ≤ 1114111) && Good (b + 2) r
  | _, [] => true
  | _, [_] => false

theorem good_mono (l : List Int) : ∀ (a b : Int), a ≤ b → Good b l = true → Good a l = true := by
  intro a b h hg
  match l with
  | [] => rfl
  | [_] => simp [Good] at hg
  | x :: y :: r =>
    simp only [Good, Bool.and_eq_true, decide_eq_true_eq] at hg ⊢
    exact ⟨⟨⟨by omega, hg.1.1.2⟩, hg.1.2⟩, hg.2⟩

/-- A set, with at most twelve spans. -/
def GoodS (l : List Int) : Bool := Good 0 l && decide (l.length ≤ 24)

theorem good_even (l : List Int) : ∀ a, Good a l = true → l.length % 2 = 0 := by
  match l with
  | [] => intro a _; rfl
  | [_] => intro a h; simp [Good] at h
  | x :: y :: r =>
    intro a h
    simp only [Good, Bool.and_eq_true] at h
    have := good_even r _ h.2
    simp only [List.length_cons]
    omega
termination_by l.length

theorem good_all (l : List Int) : ∀ a, 0 ≤ a → Good a l = true → ∀ x ∈ l, 0 ≤ x ∧ x ≤ 1114111 := by
  match l with
  | [] => intro a _ _ x hx; cases hx
  | [_] => intro a _ h; simp [Good] at h
  | y :: z :: r =>
    intro a ha h x hx
    simp [Good] at h
    simp only [List.mem_cons] at hx
    rcases hx with rfl | rfl | hx
    · omega
    · omega
    · exact good_all r (z + 2) (by omega) h.2 x hx
termination_by l.length

def lst (l : List Int) (j : Nat) : Int := if j = 0 then 0 else l.getD (j - 1) 0 + 2

theorem specSet_l (l : List Int) (hl : l.length ≤ 17592186044416) (hr : ∀ x ∈ l, 0 ≤ x ∧ x ≤ 1114111) : ∀ (d j : Nat), j + 2 * d = l.length → Ev (fun k => spec_GoodSet.l0 k l (j : Int)) (Good (lst l j) (l.drop j)) := by
  intro d
  induction d with
  | zero =>
    intro j hj
    refine Ev.step (f := fun _ => some (Good (lst l j) (l.drop j))) (fun k => ?_) (Ev.now _)
    simp only [spec_GoodSet.l0]
    rw [if_neg (by omega), List.drop_of_length_le (by omega)]
    rfl
  | succ d ih =>
    intro j hj
    have ha : 0 ≤ l[j]'(by omega) ∧ l[j]'(by omega) ≤ 1114111 := hr _ (List.getElem_mem _)
    have hb : 0 ≤ l[j + 1]'(by omega) ∧ l[j + 1]'(by omega) ≤ 1114111 := hr _ (List.getElem_mem _)
    have e1 : wrap64 ((j : Int) + 1) = ((j + 1 : Nat) : Int) := by rw [wr _ (by omega) (by omega)]; omega
    have e2 : wrap64 ((j : Int) + 2) = ((j + 2 : Nat) : Int) := by rw [wr _ (by omega) (by omega)]; omega
    have hd : l.drop j = l[j]'(by omega) :: l[j + 1]'(by omega) :: l.drop (j + 2) := by rw [drop_at l j (by omega), drop_at l (j + 1) (by omega)]
    have hn : lst l (j + 2) = l[j + 1]'(by omega) + 2 := by
      unfold lst
      rw [if_neg (by omega), show j + 2 - 1 = j + 1 from by omega, getD_at l (j + 1) (by omega)]
    have ih' := ih (j + 2) (by omega)
    rw [hn] at ih'
    have hg : Good (lst l j) (l.drop j) = (decide (lst l j ≤ l[j]'(by omega)) && decide (l[j]'(by omega) ≤ l[j + 1]'(by omega)) && decide (l[j + 1]'(by omega) ≤ 1114111) && Good (l[j + 1]'(by omega) + 2) (l.drop (j + 2))) := by
      rw [hd, Good]
    rw [hg]
    by_cases h1 : l[j]'(by omega) > l[j + 1]'(by omega)
    · refine Ev.step (f := fun _ => some false) (fun k => ?_) ?_
      · simp only [spec_GoodSet.l0]
        rw [e1, if_pos (by omega), if_pos (by omega), if_pos (by omega), if_pos (by omega), rd_at l j (by omega), rd_at l (j + 1) (by omega), if_pos h1]
      · rw [show decide (l[j]'(by omega) ≤ l[j + 1]'(by omega)) = false from decide_eq_false (by omega)]
        simpa using Ev.now false
    · rw [show decide (l[j]'(by omega) ≤ l[j + 1]'(by omega)) = true from decide_eq_true (by omega), show decide (l[j + 1]'(by omega) ≤ 1114111) = true from decide_eq_true (by omega)]
      by_cases h0 : j = 0
      · subst h0
        rw [show decide (lst l 0 ≤ l[0]'(by omega)) = true from decide_eq_true (by unfold lst; simp; omega)]
        refine Ev.step (f := fun k => spec_GoodSet.l0 k l ((0 + 2 : Nat) : Int)) (fun k => ?_) (by simpa using ih')
        simp only [spec_GoodSet.l0]
        rw [e1, if_pos (by omega), if_pos (by omega), if_pos (by omega), if_pos (by omega), rd_at l 0 (by omega), rd_at l (0 + 1) (by omega), if_neg h1, if_neg (by omega), e2]
      · have e3 : wrap64 ((j : Int) - 1) = ((j - 1 : Nat) : Int) := by rw [wr _ (by omega) (by omega)]; omega
        have hp : 0 ≤ l[j - 1]'(by omega) ∧ l[j - 1]'(by omega) ≤ 1114111 := hr _ (List.getElem_mem _)
        have hs : lst l j = l[j - 1]'(by omega) + 2 := by unfold lst; rw [if_neg h0, getD_at l (j - 1) (by omega)]
        rw [hs]
        by_cases h2 : l[j]'(by omega) < l[j - 1]'(by omega) + 2
        · refine Ev.step (f := fun _ => some false) (fun k => ?_) ?_
          · simp only [spec_GoodSet.l0]
            rw [e1, if_pos (by omega), if_pos (by omega), if_pos (by omega), if_pos (by omega), rd_at l j (by omega), rd_at l (j + 1) (by omega), if_neg h1, if_pos (by omega), e3, if_pos (by omega), if_pos (by omega), rd_at l (j - 1) (by omega), wr (l[j - 1]'(by omega) + 2) (by omega) (by omega), if_pos h2]
          · rw [show decide (l[j - 1]'(by omega) + 2 ≤ l[j]'(by omega)) = false from decide_eq_false (by omega)]
            simpa using Ev.now false
        · refine Ev.step (f := fun k => spec_GoodSet.l0 k l ((j + 2 : Nat) : Int)) (fun k => ?_) ?_
          · simp only [spec_GoodSet.l0]
            rw [e1, if_pos (by omega), if_pos (by omega), if_pos (by omega), if_pos (by omega), rd_at l j (by omega), rd_at l (j + 1) (by omega), if_neg h1, if_pos (by omega), e3, if_pos (by omega), if_pos (by omega), rd_at l (j - 1) (by omega), wr (l[j - 1]'(by omega) + 2) (by omega) (by omega), if_neg h2, e2]
          · rw [show decide (l[j - 1]'(by omega) + 2 ≤ l[j]'(by omega)) = true from decide_eq_true (by omega)]
            simpa using ih'

theorem goodS_bad (l : List Int) (h : ¬ (l.length % 2 = 0 ∧ l.length ≤ 24 ∧ l.all (inB 0 1114111) = true)) : GoodS l = false := by
  cases hg : GoodS l with
  | false => rfl
  | true =>
    unfold GoodS at hg
    rw [Bool.and_eq_true, decide_eq_true_eq] at hg
    refine absurd ⟨good_even l 0 hg.1, hg.2, ?_⟩ h
    rw [List.all_eq_true]
    intro x hx
    exact (inB_iff _ _ _).2 (good_all l 0 (by omega) hg.1 x hx)

theorem specSet_ev (l : List Int) (hl : l.length ≤ 17592186044416) : Ev (fun k => spec_GoodSet.f k l) (GoodS l) := by
  have jt : Ev (fun k => spec_GoodSet.j0 k l true) false := Ev.step (f := fun _ => some false) (fun k => by simp [spec_GoodSet.j0]) (Ev.now _)
  unfold spec_GoodSet.f
  by_cases h1 : l.length % 2 = 1
  · rw [goodS_bad l (by omega)]
    exact Ev.congr (fun k => by rw [if_pos (by omega)]) jt
  · by_cases h2 : l.length ≤ 24
    · refine Ev.congr (f := fun k => (spec_l1All.f k l 0 1114111).bind fun t => spec_GoodSet.j0 k l (!t)) (fun k => by rw [if_neg (by omega), if_neg (by omega)]) ?_
      refine Ev.bind (l1All_ev l hl 0 1114111) ?_
      cases ha : l.all (inB 0 1114111) with
      | false =>
        rw [goodS_bad l (by rw [ha]; simp)]
        exact jt
      | true =>
        refine Ev.step (f := fun k => spec_GoodSet.l0 k l ((0 : Nat) : Int)) (fun k => by simp [spec_GoodSet.j0]) ?_
        have := specSet_l l hl (fun x hx => (inB_iff _ _ _).1 (List.all_eq_true.1 ha x hx)) (l.length / 2) 0 (by omega)
        have e : GoodS l = Good (lst l 0) (l.drop 0) := by unfold GoodS lst; simp [h2]
        rw [e]
        exact this
    · rw [goodS_bad l (by omega)]
      exact Ev.congr (fun k => by rw [if_neg (by omega), if_pos (by omega)]) jt

/-- As the program asks it: number by number. -/
def GA : Bool → Int → List Int → Bool
  | _, _, [] => true
  | p, least, n :: r => inB least 1114111 n && GA (!p) (if p = true then n else n + 2) r

theorem ga_good (l : List Int) : ∀ a, l.length % 2 = 0 → GA true a l = Good a l := by
  match l with
  | [] => intro a _; rfl
  | [_] => intro a h; simp at h
  | x :: y :: r =>
    intro a h
    have ih := ga_good r (y + 2) (by simp only [List.length_cons] at h; omega)
    simp only [GA, Good, Bool.not_true, if_true, Bool.not_false, Bool.false_eq_true, if_false, ih]
    rw [Bool.eq_iff_iff]
    simp only [Bool.and_eq_true, inB_iff, decide_eq_true_eq]
    refine ⟨fun ⟨⟨h1, h2⟩, h3, h4⟩ => ⟨⟨⟨h1, h3.1⟩, h3.2⟩, h4⟩, fun ⟨⟨⟨h1, h2⟩, h3⟩, h4⟩ => ⟨⟨h1, by omega⟩, ⟨h2, h3⟩, h4⟩⟩
termination_by l.length

def lsi (l : List Int) (j : Nat) : Int := if j = 0 then 0 else if j % 2 = 0 then l.getD (j - 1) 0 + 2 else l.getD (j - 1) 0

theorem implSet_l (l : List Int) (hl : l.length ≤ 17592186044416) : ∀ (d j : Nat), j + d = l.length → (j ≠ 0 → l.getD (j - 1) 0 ≤ 1114111) → (j ≠ 0 → 0 ≤ l.getD (j - 1) 0) →
    Ev (fun k => impl_GoodSet.l0 k l l (l.length : Int) (j : Int)) (GA (j % 2 == 0) (lsi l j) (l.drop j) && decide (l.length % 2 = 0 ∧ l.length ≤ 24)) := by
  intro d
  induction d with
  | zero =>
    intro j hj _ _
    refine Ev.step (f := fun _ => some (GA (j % 2 == 0) (lsi l j) (l.drop j) && decide (l.length % 2 = 0 ∧ l.length ≤ 24))) (fun k => ?_) (Ev.now _)
    simp only [impl_GoodSet.l0]
    rw [if_neg (by omega), List.drop_of_length_le (by omega)]
    simp only [GA, Bool.true_and]
    by_cases h : l.length % 2 = 0
    · rw [if_pos (by omega)]
      simp [h]
      omega
    · rw [if_neg (by omega)]
      simp [h]
  | succ d ih =>
    intro j hj hp0 hp1
    have e1 : wrap64 ((j : Int) + 1) = ((j + 1 : Nat) : Int) := by rw [wr _ (by omega) (by omega)]; omega
    rw [drop_at l j (by omega), GA]
    have fin : ∀ (g : Nat → Option Bool), (∀ k, g (k + 1) = (impl_inRange.f (l[j]'(by omega)) (lsi l j) 1114111).bind fun t => if t = true then impl_GoodSet.l0 k l l (l.length : Int) (wrap64 ((j : Int) + 1)) else some false) →
        Ev g ((inB (lsi l j) 1114111 (l[j]'(by omega)) && GA (!(j % 2 == 0)) (if (j % 2 == 0) = true then l[j]'(by omega) else l[j]'(by omega) + 2) (l.drop (j + 1))) && decide (l.length % 2 = 0 ∧ l.length ≤ 24)) := by
      intro g hg
      cases hi : inB (lsi l j) 1114111 (l[j]'(by omega)) with
      | false =>
        refine Ev.step (f := fun _ => some false) (fun k => ?_) (by simpa using Ev.now false)
        rw [hg, in_i, hi]
        simp
      | true =>
        have hb := (inB_iff _ _ _).1 hi
        have h0 : 0 ≤ lsi l j := by
          unfold lsi
          by_cases z : j = 0
          · rw [if_pos z]; omega
          · have := hp1 z
            rw [if_neg z]
            by_cases z2 : j % 2 = 0
            · rw [if_pos z2]; omega
            · rw [if_neg z2]; omega
        refine Ev.step (f := fun k => impl_GoodSet.l0 k l l (l.length : Int) ((j + 1 : Nat) : Int)) (fun k => ?_) ?_
        · rw [hg, in_i, hi, e1]
          simp
        · have hq : l.getD (j + 1 - 1) 0 = l[j]'(by omega) := by rw [show j + 1 - 1 = j from by omega, getD_at l j (by omega)]
          have := ih (j + 1) (by omega) (fun _ => by rw [hq]; omega) (fun _ => by rw [hq]; omega)
          have es : lsi l (j + 1) = if (j % 2 == 0) = true then l[j]'(by omega) else l[j]'(by omega) + 2 := by
            unfold lsi
            rw [if_neg (by omega), hq]
            by_cases z : j % 2 = 0
            · rw [if_neg (by omega), if_pos (by simpa using z)]
            · rw [if_pos (by omega), if_neg (by simpa using z)]
          have ep : ((j + 1) % 2 == 0) = !(j % 2 == 0) := by
            by_cases z : j % 2 = 0
            · have : ¬ (j + 1) % 2 = 0 := by omega
              simp [z, this]
            · have : (j + 1) % 2 = 0 := by omega
              simp [z, this]
          rw [es, ep] at this
          rw [Bool.true_and]
          exact this
    by_cases z : j = 0
    · subst z
      refine Ev.step (f := fun k => impl_GoodSet.j1 k l ((0 : Nat) : Int) (l[0]'(by omega)) 0 l (l.length : Int) ((0 : Nat) : Int) false) (fun k => ?_) (fin _ fun k => ?_)
      · simp only [impl_GoodSet.l0]
        rw [if_pos (by omega), if_pos (by omega), if_pos (by omega), if_neg (by omega), rd_at l 0 (by omega)]
      · simp only [impl_GoodSet.j1]
        rw [if_neg (by simp), if_neg (by omega)]
        rfl
    · have e3 : wrap64 ((j : Int) - 1) = ((j - 1 : Nat) : Int) := by rw [wr _ (by omega) (by omega)]; omega
      have q0 := hp0 z
      have q1 := hp1 z
      have et : ((Int.tmod (j : Int) 2) == 0) = (j % 2 == 0) := by
        rw [show (2 : Int) = ((2 : Nat) : Int) from rfl, ← Int.ofNat_tmod, Bool.eq_iff_iff]
        simp only [beq_iff_eq]
        omega
      refine Ev.step (f := fun k => impl_GoodSet.j1 k l (j : Int) (l[j]'(by omega)) 0 l (l.length : Int) (j : Int) (j % 2 == 0)) (fun k => ?_) (fin _ fun k => ?_)
      · simp only [impl_GoodSet.l0]
        rw [if_pos (by omega), if_pos (by omega), if_pos (by omega), if_pos (by omega), rd_at l j (by omega), et]
      · simp only [impl_GoodSet.j1]
        by_cases z2 : j % 2 = 0
        · rw [if_pos (by simpa using z2), e3, if_pos (by omega), if_pos (by omega), rd_nat, wr (l.getD (j - 1) 0 + 2) (by omega) (by omega)]
          unfold lsi
          rw [if_neg z, if_pos z2]
        · rw [if_neg (by simpa using z2), if_pos (by omega), e3, if_pos (by omega), if_pos (by omega), rd_nat]
          unfold lsi
          rw [if_neg z, if_neg z2]

theorem implSet_ev (l : List Int) (hl : l.length ≤ 17592186044416) : Ev (fun k => impl_GoodSet.f k l) (GoodS l) := by
  have h := implSet_l l hl l.length 0 (by omega) (fun h => absurd rfl h) (fun h => absurd rfl h)
  have e : GoodS l = (GA (0 % 2 == 0) (lsi l 0) (l.drop 0) && decide (l.length % 2 = 0 ∧ l.length ≤ 24)) := by
    by_cases hev : l.length % 2 = 0
    · show (Good 0 l && decide (l.length ≤ 24)) = (GA true 0 l && _)
      rw [ga_good l 0 hev]
      simp [hev]
    · rw [goodS_bad l (by omega)]
      simp [hev]
  rw [e]
  exact Ev.congr (fun k => by unfold impl_GoodSet.f; rfl) h

theorem goodS_facts (l : List Int) (h : GoodS l = true) : l.length ≤ 24 ∧ l.length % 2 = 0 ∧ ∀ x ∈ l, 0 ≤ x ∧ x ≤ 1114111 := by
  unfold GoodS at h
  rw [Bool.and_eq_true, decide_eq_true_eq] at h
  exact ⟨h.2, good_even l 0 h.1, good_all l 0 (by omega) h.1⟩

/-- The spans of a set. -/
def spansV : List Int → List S48
  | a :: b :: r => ⟨a, b⟩ :: spansV r
  | _ => []

theorem spansV_length (l : List Int) : (spansV l).length ≤ l.length := by
  match l with
  | [] => simp [spansV]
  | [_] => simp [spansV]
  | a :: b :: r =>
    have := spansV_length r
    simp only [spansV, List.length_cons]
    omega
termination_by l.length

theorem spansOf_l (l : List Int) (hl : l.length ≤ 4398046511104) : ∀ (d j : Nat) (acc : List S48), l.length ≤ j + 2 * d → j ≤ l.length + 1 → acc.length ≤ j → Ev (fun k => impl_spansOf.l0 k l acc (j : Int)) (acc ++ spansV (l.drop j)) := by
  intro d
  induction d with
  | zero =>
    intro j acc hj hj2 ha
    refine Ev.step (f := fun _ => some (acc ++ spansV (l.drop j))) (fun k => ?_) (Ev.now _)
    simp only [impl_spansOf.l0]
    rw [wr _ (by omega) (by omega), if_neg (by omega), List.drop_of_length_le (by omega)]
    simp [spansV]
  | succ d ih =>
    intro j acc hj hj2 ha
    have e1 : wrap64 ((j : Int) + 1) = ((j + 1 : Nat) : Int) := by rw [wr _ (by omega) (by omega)]; omega
    have e2 : wrap64 ((j : Int) + 2) = ((j + 2 : Nat) : Int) := by rw [wr _ (by omega) (by omega)]; omega
    by_cases h : j + 1 < l.length
    · refine Ev.step (f := fun k => impl_spansOf.l0 k l (acc ++ [(⟨l[j]'(by omega), l[j + 1]'(by omega)⟩ : S48)]) ((j + 2 : Nat) : Int)) (fun k => ?_) ?_
      · simp only [impl_spansOf.l0]
        rw [e1, if_pos (by omega), if_pos (by omega), if_pos (by omega), if_pos (by omega), if_pos (by omega), rd_at l j (by omega), rd_at l (j + 1) (by omega), e2]
      · have := ih (j + 2) (acc ++ [(⟨l[j]'(by omega), l[j + 1]'(by omega)⟩ : S48)]) (by omega) (by omega) (by simp; omega)
        rw [drop_at l j (by omega), drop_at l (j + 1) (by omega)]
        simpa only [spansV, List.append_assoc, List.singleton_append] using this
    · refine Ev.step (f := fun _ => some (acc ++ spansV (l.drop j))) (fun k => ?_) (Ev.now _)
      simp only [impl_spansOf.l0]
      rw [e1, if_neg (by omega)]
      have : spansV (l.drop j) = [] := by
        by_cases z : j < l.length
        · rw [drop_at l j z, List.drop_of_length_le (by omega)]
          rfl
        · rw [List.drop_of_length_le (by omega)]
          rfl
      rw [this, List.append_nil]

theorem spansOf_ev (l : List Int) (hl : l.length ≤ 4398046511104) : Ev (fun k => impl_spansOf.f k l) (spansV l) :=
  Ev.congr (fun k => by unfold impl_spansOf.f; rfl) (by simpa using spansOf_l l hl (l.length) 0 [] (by omega) (by omega) (by simp))

theorem rdS_at (l : List S48) (j : Nat) (h : j < l.length) : rd_T48 l (j : Int) = l[j] := by unfold rd_T48; simp [List.getD_eq_getElem?_getD, h]

/-- Is a number in a set? -/
def memV (r : Int) : List Int → Bool
  | a :: b :: t => inB a b r || memV r t
  | _ => false

theorem specIn_l (l : List Int) (r : Int) (hl : l.length ≤ 4398046511104) : ∀ (d j : Nat), j + 2 * d = l.length → Ev (fun k => spec_l4In.l0 k l r (j : Int)) (memV r (l.drop j)) := by
  intro d
  induction d with
  | zero =>
    intro j hj
    refine Ev.step (f := fun _ => some (memV r (l.drop j))) (fun k => ?_) (Ev.now _)
    simp only [spec_l4In.l0]
    rw [if_neg (by omega), List.drop_of_length_le (by omega)]
    rfl
  | succ d ih =>
    intro j hj
    have e1 : wrap64 ((j : Int) + 1) = ((j + 1 : Nat) : Int) := by rw [wr _ (by omega) (by omega)]; omega
    have e2 : wrap64 ((j : Int) + 2) = ((j + 2 : Nat) : Int) := by rw [wr _ (by omega) (by omega)]; omega
    have hd : l.drop j = l[j]'(by omega) :: l[j + 1]'(by omega) :: l.drop (j + 2) := by rw [drop_at l j (by omega), drop_at l (j + 1) (by omega)]
    rw [hd, memV]
    cases h : inB (l[j]'(by omega)) (l[j + 1]'(by omega)) r with
    | true =>
      refine Ev.step (f := fun _ => some true) (fun k => ?_) (by simpa using Ev.now true)
      simp only [spec_l4In.l0]
      rw [e1, if_pos (by omega), if_pos (by omega), if_pos (by omega), if_pos (by omega), rd_at l j (by omega), rd_at l (j + 1) (by omega), in_s, h]
      simp
    | false =>
      refine Ev.step (f := fun k => spec_l4In.l0 k l r ((j + 2 : Nat) : Int)) (fun k => ?_) (by simpa using ih (j + 2) (by omega))
      simp only [spec_l4In.l0]
      rw [e1, if_pos (by omega), if_pos (by omega), if_pos (by omega), if_pos (by omega), rd_at l j (by omega), rd_at l (j + 1) (by omega), in_s, h, e2]
      simp

theorem specIn_ev (l : List Int) (r : Int) (hl : l.length ≤ 4398046511104) (he : l.length % 2 = 0) : Ev (fun k => spec_l4In.f k l r) (memV r l) :=
  Ev.congr (fun k => by unfold spec_l4In.f; rfl) (by simpa using specIn_l l r hl (l.length / 2) 0 (by omega))

theorem inSpans_mem (r : Int) (l : List Int) : inSpans r (spansV l) = memV r l := by
  match l with
  | [] => rfl
  | [_] => rfl
  | a :: b :: t =>
    have ih := inSpans_mem r t
    unfold inSpans at ih ⊢
    simp only [spansV, memV, List.any_cons, ih]
    rfl
termination_by l.length

theorem implIn_ev (l : List Int) (r : Int) (hl : l.length ≤ 4398046511104) : Ev (fun k => impl_inSet.f k l r) (memV r l) := by
  unfold impl_inSet.f
  refine Ev.bind (spansOf_ev l hl) ?_
  rw [inSpans_mem]
  exact Ev.now _

theorem good_cons {a x y : Int} {r : List Int} : Good a (x :: y :: r) = true ↔ a ≤ x ∧ x ≤ y ∧ y ≤ 1114111 ∧ Good (y + 2) r = true := by
  simp only [Good, Bool.and_eq_true, decide_eq_true_eq]
  exact ⟨fun h => ⟨h.1.1.1, h.1.1.2, h.1.2, h.2⟩, fun h => ⟨⟨⟨h.1, h.2.1⟩, h.2.2.1⟩, h.2.2.2⟩⟩

theorem good_mem_ge (l : List Int) : ∀ a r, Good a l = true → memV r l = true → a ≤ r ∧ r ≤ 1114111 := by
  match l with
  | [] => intro a r _ h; simp [memV] at h
  | [_] => intro a r _ h; simp [memV] at h
  | x :: y :: t =>
    intro a r h hm
    obtain ⟨h1, h2, h3, h4⟩ := good_cons.1 h
    simp only [memV, Bool.or_eq_true, inB_iff] at hm
    rcases hm with hm | hm
    · omega
    · have := good_mem_ge t _ r h4 hm
      omega
termination_by l.length

theorem inB_false {a b n : Int} (h : ¬ (a ≤ n ∧ n ≤ b)) : inB a b n = false := by
  cases e : inB a b n with
  | false => rfl
  | true => exact absurd ((inB_iff _ _ _).1 e) h

theorem mem_low (l : List Int) (a r : Int) (h : Good a l = true) (hr : r < a) : memV r l = false := by
  cases e : memV r l with
  | false => rfl
  | true =>
    have := good_mem_ge l a r h e
    omega

/-- Two sets with the same runes are one. -/
theorem good_ext (l : List Int) : ∀ (m : List Int) (a b : Int), Good a l = true → Good b m = true → (∀ n, memV n l = memV n m) → l = m := by
  match l with
  | [] =>
    intro m a b h1 h2 h
    match m with
    | [] => rfl
    | [_] => simp [Good] at h2
    | x :: y :: r =>
      obtain ⟨g1, g2, g3, g4⟩ := good_cons.1 h2
      have := h x
      rw [memV, (inB_iff x y x).2 ⟨by omega, g2⟩] at this
      simp [memV] at this
  | [_] => intro m a b h1; simp [Good] at h1
  | x :: y :: r =>
    intro m a b h1 h2 h
    obtain ⟨g1, g2, g3, g4⟩ := good_cons.1 h1
    match m with
    | [] =>
      have := h x
      rw [memV, (inB_iff x y x).2 ⟨by omega, g2⟩] at this
      simp [memV] at this
    | [_] => simp [Good] at h2
    | x' :: y' :: r' =>
      obtain ⟨f1, f2, f3, f4⟩ := good_cons.1 h2
      have e1 : x = x' := by
        have p := h x
        have q := h x'
        rw [memV, (inB_iff x y x).2 ⟨by omega, g2⟩, Bool.true_or] at p
        rw [show memV x' (x' :: y' :: r') = (inB x' y' x' || memV x' r') from rfl, (inB_iff x' y' x').2 ⟨by omega, f2⟩, Bool.true_or] at q
        have p1 := good_mem_ge _ x' x (good_cons.2 ⟨by omega, f2, f3, f4⟩) p.symm
        have q1 := good_mem_ge _ x x' (good_cons.2 ⟨by omega, g2, g3, g4⟩) q
        omega
      subst e1
      have e2 : y = y' := by
        have side : ∀ (u v : Int) (s s' : List Int), x ≤ u → Good (u + 2) s = true → (∀ n, memV n (x :: u :: s) = memV n (x :: v :: s')) → ¬ u < v := by
          intro u v s s' hu hg hh hlt
          have p := hh (u + 1)
          rw [show memV (u + 1) (x :: u :: s) = (inB x u (u + 1) || memV (u + 1) s) from rfl, show memV (u + 1) (x :: v :: s') = (inB x v (u + 1) || memV (u + 1) s') from rfl, inB_false (by omega), mem_low s _ _ hg (by omega), (inB_iff x v (u + 1)).2 ⟨by omega, by omega⟩] at p
          simp at p
        have p := side y y' r r' g2 g4 h
        have q := side y' y r' r f2 f4 (fun n => (h n).symm)
        omega
      subst e2
      have e3 : r = r' := by
        refine good_ext r r' (y + 2) (y + 2) g4 f4 fun n => ?_
        by_cases hn : n < y + 2
        · rw [mem_low r _ _ g4 hn, mem_low r' _ _ f4 hn]
        · have := h n
          rw [show memV n (x :: y :: r) = (inB x y n || memV n r) from rfl, show memV n (x :: y :: r') = (inB x y n || memV n r') from rfl, inB_false (by omega), Bool.false_or, Bool.false_or] at this
          exact this
      rw [e3]
termination_by l.length
/-- A span added to a set. -/
def addV (a b : Int) : List Int → List Int
  | x :: y :: r => if y < a - 1 then x :: y :: addV a b r else if x > b + 1 then a :: b :: x :: y :: r else addV (if a < x then a else x) (if b > y then b else y) r
  | _ => [a, b]
termination_by l => l.length

theorem add_cons (a b x y : Int) (r : List Int) : addV a b (x :: y :: r) = if y < a - 1 then x :: y :: addV a b r else if x > b + 1 then a :: b :: x :: y :: r else addV (if a < x then a else x) (if b > y then b else y) r := by rw [addV]
theorem add_nil (a b : Int) : addV a b [] = [a, b] := by rw [addV]; intro x y r h; cases h

theorem add_good (l : List Int) : ∀ (c a b : Int), Good c l = true → c ≤ a → a ≤ b → b ≤ 1114111 → Good c (addV a b l) = true := by
  match l with
  | [] => intro c a b _ h1 h2 h3; rw [add_nil]; exact good_cons.2 ⟨h1, h2, h3, rfl⟩
  | [_] => intro c a b h; simp [Good] at h
  | x :: y :: r =>
    intro c a b h h1 h2 h3
    obtain ⟨g1, g2, g3, g4⟩ := good_cons.1 h
    rw [add_cons]
    by_cases c1 : y < a - 1
    · rw [if_pos c1]
      exact good_cons.2 ⟨g1, g2, g3, add_good r (y + 2) a b g4 (by omega) h2 h3⟩
    · rw [if_neg c1]
      by_cases c2 : x > b + 1
      · rw [if_pos c2]
        exact good_cons.2 ⟨h1, h2, h3, good_cons.2 ⟨by omega, g2, g3, g4⟩⟩
      · rw [if_neg c2]
        exact add_good r c _ _ (good_mono r c (y + 2) (by omega) g4) (by split <;> omega) (by split <;> split <;> omega) (by split <;> omega)
termination_by l.length

theorem add_mem (l : List Int) (n : Int) : ∀ (c a b : Int), Good c l = true → a ≤ b → memV n (addV a b l) = (inB a b n || memV n l) := by
  match l with
  | [] => intro c a b _ _; rw [add_nil]; rfl
  | [_] => intro c a b h; simp [Good] at h
  | x :: y :: r =>
    intro c a b h h2
    obtain ⟨g1, g2, g3, g4⟩ := good_cons.1 h
    rw [add_cons]
    by_cases c1 : y < a - 1
    · rw [if_pos c1, memV, add_mem r n (y + 2) a b g4 h2, memV, ← Bool.or_assoc, ← Bool.or_assoc, Bool.or_comm (inB x y n)]
    · rw [if_neg c1]
      by_cases c2 : x > b + 1
      · rw [if_pos c2, memV]
      · rw [if_neg c2, add_mem r n (y + 2) _ _ g4 (by split <;> split <;> omega), memV, ← Bool.or_assoc]
        congr 1
        rw [Bool.eq_iff_iff, Bool.or_eq_true, inB_iff, inB_iff, inB_iff]
        split <;> split <;> omega
termination_by l.length

theorem add_length (l : List Int) : ∀ (a b : Int), (addV a b l).length ≤ l.length + 2 := by
  match l with
  | [] => intro a b; rw [add_nil]; simp
  | [_] => intro a b; rw [addV]; simp; intro x y r h; simp at h
  | x :: y :: r =>
    intro a b
    rw [add_cons]
    by_cases c1 : y < a - 1
    · rw [if_pos c1]
      have := add_length r a b
      simp only [List.length_cons]; omega
    · rw [if_neg c1]
      by_cases c2 : x > b + 1
      · rw [if_pos c2]; simp
      · rw [if_neg c2]
        have := add_length r (if a < x then a else x) (if b > y then b else y)
        simp only [List.length_cons]; omega
termination_by l.length

theorem own_ev (l : List Int) (hl : l.length ≤ 4398046511104) : spec_l1Own.f l = some l := by
  unfold spec_l1Own.f
  simp only [Option.bind_some]
  rw [if_pos (by simp; omega)]
  simp

theorem least_ev (a b : Int) : spec_l1Least.f a b = some (if a < b then a else b) := by unfold spec_l1Least.f; split <;> rfl
theorem most_ev (a b : Int) : spec_l1Most.f a b = some (if a > b then a else b) := by unfold spec_l1Most.f; split <;> rfl

theorem add_l1 (a b : Int) (acc : List Int) (hl : acc.length ≤ 4398046511104) (p : Nat) (hp : p ≤ acc.length) (he : p % 2 = 0) (hlt : ∀ i, i < p → acc.getD i 0 < a) (hge : p < acc.length → a ≤ acc.getD p 0) : ∀ (d j : Nat), j + 2 * d = p → Ev (fun k => spec_l4Add.l1 k a b acc (j : Int)) (acc.take p ++ [a, b] ++ acc.drop p) := by
  intro d
  induction d with
  | zero =>
    intro j hj
    have ej : j = p := by omega
    subst ej
    have t1 : (acc.take j).length ≤ 4398046511104 := by rw [List.length_take]; omega
    have t2 : (acc.take j).length ≤ acc.length := by rw [List.length_take]; omega
    have t3 : (acc.take j ++ [a, b]).length ≤ acc.length + 2 := by rw [List.length_append]; simp only [List.length_cons, List.length_nil]; omega
    have t4 : (acc.drop j).length ≤ acc.length := by rw [List.length_drop]; omega
    refine Ev.step (f := fun _ => some (acc.take j ++ [a, b] ++ acc.drop j)) (fun k => ?_) (Ev.now _)
    simp only [spec_l4Add.l1]
    have body : ((spec_l1Own.f (acc.take ((j : Int)).toNat)).bind fun t147 => ((some (([a, b] : List Int) : List Int)).bind fun y150 => (if t147.length + y150.length < 17592186044416 then ((some (t147 ++ y150 : List Int)).bind fun y153 => ((some (acc.drop ((j : Int)).toNat : List Int)).bind fun y156 => (if y153.length + y156.length < 17592186044416 then (some (y153 ++ y156)) else (none)))) else (none)))) = some (acc.take j ++ [a, b] ++ acc.drop j) := by
      rw [Int.toNat_natCast, own_ev _ t1]
      simp only [Option.bind_some]
      rw [if_pos (by simp only [List.length_cons, List.length_nil]; omega), if_pos (by omega)]
    by_cases h : j < acc.length
    · have := hge h
      rw [getD_at acc j h] at this
      rw [if_pos (by omega), if_pos (by omega), rd_at acc j h, if_neg (by omega), if_pos (by omega)]
      exact body
    · rw [if_neg (by omega), if_pos (by omega), if_pos (by omega)]
      exact body
  | succ d ih =>
    intro j hj
    have e2 : wrap64 ((j : Int) + 2) = ((j + 2 : Nat) : Int) := by rw [wr _ (by omega) (by omega)]; omega
    refine Ev.step (f := fun k => spec_l4Add.l1 k a b acc ((j + 2 : Nat) : Int)) (fun k => ?_) (ih (j + 2) (by omega))
    have := hlt j (by omega)
    rw [getD_at acc j (by omega)] at this
    simp only [spec_l4Add.l1]
    rw [if_pos (by omega), if_pos (by omega), rd_at acc j (by omega), if_pos this, e2]

theorem add_l02 (l : List Int) (hl : l.length ≤ 4398046511104) (a b : Int) (h0 : 0 ≤ a) (hab : a ≤ b) (hb : b ≤ 1114111) (r : List Int) : ∀ (d j : Nat) (acc : List Int), j + 2 * d = l.length → acc.length ≤ j → Good (b + 2) (l.drop j) = true → Ev (fun k => spec_l4Add.l1 k a b (acc ++ l.drop j) ((0 : Nat) : Int)) r → Ev (fun k => spec_l4Add.l0 k l a b acc (j : Int)) r := by
  intro d
  induction d with
  | zero =>
    intro j acc hj ha hg hr
    rw [List.drop_of_length_le (by omega), List.append_nil] at hr
    refine Ev.step (f := fun k => spec_l4Add.l1 k a b acc ((0 : Nat) : Int)) (fun k => ?_) hr
    simp only [spec_l4Add.l0]
    rw [if_neg (by omega)]
    rfl
  | succ d ih =>
    intro j acc hj ha hg hr
    have hd : l.drop j = l[j]'(by omega) :: l[j + 1]'(by omega) :: l.drop (j + 2) := by rw [drop_at l j (by omega), drop_at l (j + 1) (by omega)]
    rw [hd] at hg hr
    obtain ⟨g1, g2, g3, g4⟩ := good_cons.1 hg
    have e1 : wrap64 ((j : Int) + 1) = ((j + 1 : Nat) : Int) := by rw [wr _ (by omega) (by omega)]; omega
    have e2 : wrap64 ((j : Int) + 2) = ((j + 2 : Nat) : Int) := by rw [wr _ (by omega) (by omega)]; omega
    have ih' := ih (j + 2) (acc ++ [l[j]'(by omega), l[j + 1]'(by omega)]) (by omega) (by simp; omega) (good_mono _ _ _ (by omega) g4) (by simpa using hr)
    refine Ev.step (f := fun k => spec_l4Add.j1 k l a b acc (j : Int) true) (fun k => ?_) (Ev.step (f := fun k => spec_l4Add.l0 k l a b (acc ++ [l[j]'(by omega), l[j + 1]'(by omega)]) ((j + 2 : Nat) : Int)) (fun k => ?_) ih')
    · simp only [spec_l4Add.l0]
      rw [e1, if_pos (by omega), if_pos (by omega), if_pos (by omega), rd_at l (j + 1) (by omega), rd_at l j (by omega), wr (a - 1) (by omega) (by omega), wr (b + 1) (by omega) (by omega), if_neg (by omega), if_pos (by omega), show decide (l[j]'(by omega) > b + 1) = true from decide_eq_true (by omega)]
    · simp only [spec_l4Add.j1]
      rw [e1, e2, if_pos trivial, if_pos (by omega), if_pos (by omega), if_pos (by omega), if_pos (by omega), rd_at l (j + 1) (by omega), rd_at l j (by omega)]
      simp only [Option.bind_some]
      rw [if_pos (by simp only [List.length_cons, List.length_nil]; omega)]

theorem getD_mem (l : List Int) (i : Nat) (h : i < l.length) : l.getD i 0 ∈ l := by rw [getD_at l i h]; exact List.getElem_mem _

theorem getD_app1 (l m : List Int) (i : Nat) (h : i < l.length) : (l ++ m).getD i 0 = l.getD i 0 := by simp [List.getD_eq_getElem?_getD, List.getElem?_append_left h]
theorem getD_app2 (l m : List Int) : (l ++ m).getD l.length 0 = m.getD 0 0 := by simp [List.getD_eq_getElem?_getD, List.getElem?_append_right]

theorem add_l01 (l : List Int) (hl : l.length ≤ 2199023255552) : ∀ (d j : Nat) (acc : List Int) (a b c : Int), j + 2 * d = l.length → acc.length ≤ j → acc.length % 2 = 0 → 0 ≤ a → a ≤ b → b ≤ 1114111 → 0 ≤ c → Good c (l.drop j) = true → (∀ z ∈ acc, z < a ∧ z < c) → Ev (fun k => spec_l4Add.l0 k l a b acc (j : Int)) (acc ++ addV a b (l.drop j)) := by
  intro d
  induction d with
  | zero =>
    intro j acc a b c hj ha he h0 h1 h2 hc hg hz
    rw [List.drop_of_length_le (by omega), add_nil]
    refine Ev.step (f := fun k => spec_l4Add.l1 k a b acc ((0 : Nat) : Int)) (fun k => ?_) ?_
    · simp only [spec_l4Add.l0]
      rw [if_neg (by omega)]
      rfl
    · have := add_l1 a b acc (by omega) acc.length (by omega) he (fun i hi => (hz _ (getD_mem acc i hi)).1) (fun h => absurd h (by omega)) (acc.length / 2) 0 (by omega)
      simpa using this
  | succ d ih =>
    intro j acc a b c hj ha he h0 h1 h2 hc hg hz
    have hd : l.drop j = l[j]'(by omega) :: l[j + 1]'(by omega) :: l.drop (j + 2) := by rw [drop_at l j (by omega), drop_at l (j + 1) (by omega)]
    have e1 : wrap64 ((j : Int) + 1) = ((j + 1 : Nat) : Int) := by rw [wr _ (by omega) (by omega)]; omega
    have e2 : wrap64 ((j : Int) + 2) = ((j + 2 : Nat) : Int) := by rw [wr _ (by omega) (by omega)]; omega
    have hg' := hg
    rw [hd] at hg'
    obtain ⟨g1, g2, g3, g4⟩ := good_cons.1 hg'
    by_cases c1 : l[j + 1]'(by omega) < a - 1
    · have ih' := ih (j + 2) (acc ++ [l[j]'(by omega), l[j + 1]'(by omega)]) a b (l[j + 1]'(by omega) + 2) (by omega) (by simp; omega) (by simp; omega) h0 h1 h2 (by omega) g4 (by
        intro z hz'
        simp only [List.mem_append, List.mem_cons, List.not_mem_nil, or_false] at hz'
        rcases hz' with hz' | rfl | rfl
        · have := hz z hz'; omega
        · omega
        · omega)
      rw [hd, add_cons, if_pos c1]
      refine Ev.step (f := fun k => spec_l4Add.j1 k l a b acc (j : Int) true) (fun k => ?_) (Ev.step (f := fun k => spec_l4Add.l0 k l a b (acc ++ [l[j]'(by omega), l[j + 1]'(by omega)]) ((j + 2 : Nat) : Int)) (fun k => ?_) (by simpa using ih'))
      · simp only [spec_l4Add.l0]
        rw [e1, if_pos (by omega), if_pos (by omega), if_pos (by omega), rd_at l (j + 1) (by omega), wr (a - 1) (by omega) (by omega), if_pos c1]
      · simp only [spec_l4Add.j1]
        rw [e1, e2, if_pos trivial, if_pos (by omega), if_pos (by omega), if_pos (by omega), if_pos (by omega), rd_at l (j + 1) (by omega), rd_at l j (by omega)]
        simp only [Option.bind_some]
        rw [if_pos (by simp only [List.length_cons, List.length_nil]; omega)]
    · by_cases c2 : l[j]'(by omega) > b + 1
      · have hg2 : Good (b + 2) (l.drop j) = true := by rw [hd]; exact good_cons.2 ⟨by omega, g2, g3, g4⟩
        rw [show addV a b (l.drop j) = a :: b :: l.drop j from by rw [hd, add_cons, if_neg c1, if_pos c2]]
        refine add_l02 l (by omega) a b h0 h1 h2 _ (d + 1) j acc (by omega) ha hg2 ?_
        have hq : (l.drop j).getD 0 0 = l[j]'(by omega) := by rw [hd]; rfl
        have := add_l1 a b (acc ++ l.drop j) (by simp; omega) acc.length (by simp) he (fun i hi => by rw [getD_app1 _ _ _ hi]; exact (hz _ (getD_mem acc i hi)).1) (fun _ => by rw [getD_app2, hq]; omega) (acc.length / 2) 0 (by omega)
        rw [List.take_left, List.drop_left] at this
        simpa using this
      · have ih' := ih (j + 2) acc (if a < l[j]'(by omega) then a else l[j]'(by omega)) (if b > l[j + 1]'(by omega) then b else l[j + 1]'(by omega)) c (by omega) (by omega) he (by split <;> omega) (by split <;> split <;> omega) (by split <;> omega) hc (good_mono _ _ _ (by omega) g4) (by
          intro z hz'
          have := hz z hz'
          refine ⟨?_, this.2⟩
          split <;> omega)
        rw [hd, add_cons, if_neg c1, if_neg c2]
        refine Ev.step (f := fun k => spec_l4Add.j1 k l a b acc (j : Int) false) (fun k => ?_) (Ev.step (f := fun k => spec_l4Add.l0 k l (if a < l[j]'(by omega) then a else l[j]'(by omega)) (if b > l[j + 1]'(by omega) then b else l[j + 1]'(by omega)) acc ((j + 2 : Nat) : Int)) (fun k => ?_) ih')
        · simp only [spec_l4Add.l0]
          rw [e1, if_pos (by omega), if_pos (by omega), if_pos (by omega), rd_at l (j + 1) (by omega), rd_at l j (by omega), wr (a - 1) (by omega) (by omega), wr (b + 1) (by omega) (by omega), if_neg c1, if_pos (by omega), show decide (l[j]'(by omega) > b + 1) = false from decide_eq_false c2]
        · simp only [spec_l4Add.j1]
          rw [e1, e2, if_neg (by simp), if_pos (by omega), if_pos (by omega), rd_at l j (by omega), least_ev]
          simp only [Option.bind_some]
          rw [if_pos (by omega), if_pos (by omega), rd_at l (j + 1) (by omega), most_ev]
          simp only [Option.bind_some]

theorem add_ev (l : List Int) (hl : l.length ≤ 2199023255552) (a b : Int) (hg : Good 0 l = true) (h0 : 0 ≤ a) (h1 : a ≤ b) (h2 : b ≤ 1114111) : Ev (fun k => spec_l4Add.f k l a b) (addV a b l) := by
  have he := good_even l 0 hg
  exact Ev.congr (fun k => by unfold spec_l4Add.f; rfl) (by simpa using add_l01 l hl (l.length / 2) 0 [] a b 0 (by omega) (by simp) rfl h0 h1 h2 (by omega) (by simpa using hg) (by simp))
/-- Sorted spans laid together. -/
def mrgV (a b : Int) : List S48 → List Int
  | x :: r => if x.f0 ≤ b + 1 then mrgV a (mx b x.f1) r else a :: b :: mrgV x.f0 x.f1 r
  | [] => [a, b]
def mrgA : List S48 → List Int
  | x :: r => mrgV x.f0 x.f1 r
  | [] => []
def anyS (n : Int) (l : List S48) : Bool := l.any fun x => inB x.f0 x.f1 n
def SpanOk (x : S48) : Prop := 0 ≤ x.f0 ∧ x.f0 ≤ x.f1 ∧ x.f1 ≤ 1114111

theorem mrg_good (l : List S48) : ∀ (c a b : Int), (∀ x ∈ l, SpanOk x) → (∀ x ∈ l, a ≤ x.f0) → l.Pairwise (fun a b => a.f0 ≤ b.f0) → c ≤ a → a ≤ b → b ≤ 1114111 → Good c (mrgV a b l) = true := by
  induction l with
  | nil => intro c a b _ _ _ h1 h2 h3; exact good_cons.2 ⟨h1, h2, h3, rfl⟩
  | cons x r ih =>
    intro c a b ho hs hp h1 h2 h3
    have ox := ho x (by simp)
    have sx := hs x (by simp)
    obtain ⟨p1, p2⟩ := List.pairwise_cons.1 hp
    unfold SpanOk at ox
    rw [mrgV]
    by_cases h : x.f0 ≤ b + 1
    · rw [if_pos h]
      exact ih c a _ (fun y hy => ho y (by simp [hy])) (fun y hy => hs y (by simp [hy])) p2 h1 (by unfold mx; split <;> omega) (by unfold mx; split <;> omega)
    · rw [if_neg h]
      exact good_cons.2 ⟨h1, h2, h3, ih _ _ _ (fun y hy => ho y (by simp [hy])) p1 p2 (by omega) (by omega) (by omega)⟩

theorem mrg_mem (l : List S48) (n : Int) : ∀ (a b : Int), (∀ x ∈ l, SpanOk x) → (∀ x ∈ l, a ≤ x.f0) → l.Pairwise (fun a b => a.f0 ≤ b.f0) → a ≤ b → memV n (mrgV a b l) = (inB a b n || anyS n l) := by
  induction l with
  | nil => intro a b _ _ _ _; rfl
  | cons x r ih =>
    intro a b ho hs hp h2
    have ox := ho x (by simp)
    have sx := hs x (by simp)
    obtain ⟨p1, p2⟩ := List.pairwise_cons.1 hp
    unfold SpanOk at ox
    rw [mrgV]
    have e : anyS n (x :: r) = (inB x.f0 x.f1 n || anyS n r) := by simp [anyS]
    by_cases h : x.f0 ≤ b + 1
    · rw [if_pos h, ih a _ (fun y hy => ho y (by simp [hy])) (fun y hy => hs y (by simp [hy])) p2 (by unfold mx; split <;> omega), e, ← Bool.or_assoc]
      congr 1
      rw [Bool.eq_iff_iff, Bool.or_eq_true, inB_iff, inB_iff, inB_iff]
      unfold mx
      split <;> omega
    · rw [if_neg h, memV, ih _ _ (fun y hy => ho y (by simp [hy])) p1 p2 (by omega), e]

theorem mrg_length (l : List S48) : ∀ a b, (mrgV a b l).length ≤ 2 * l.length + 2 := by
  induction l with
  | nil => intro a b; simp [mrgV]
  | cons x r ih =>
    intro a b
    rw [mrgV]
    split
    · have := ih a (mx b x.f1); simp only [List.length_cons]; omega
    · have := ih x.f0 x.f1; simp only [List.length_cons]; omega

theorem rdSm_at (l : List S48) (j : Nat) (h : j < l.length) : rd_T48 l (j : Int) = l[j] := by unfold rd_T48; simp [List.getD_eq_getElem?_getD, h]

theorem implMrg_l (l : List S48) (hl : l.length ≤ 1099511627776) (ho : ∀ x ∈ l, SpanOk x) : ∀ (d j : Nat) (A : List Int) (a b : Int), j + d = l.length → A.length + 2 ≤ 2 * j → 0 ≤ b → b ≤ 1114111 → Ev (fun k => impl_setOf.l0 k l (A ++ [a, b]) l (l.length : Int) (j : Int)) (A ++ mrgV a b (l.drop j), l) := by
  intro d
  induction d with
  | zero =>
    intro j A a b hj hA h0 h1
    refine Ev.step (f := fun _ => some (A ++ mrgV a b (l.drop j), l)) (fun k => ?_) (Ev.now _)
    simp only [impl_setOf.l0]
    rw [if_neg (by omega), List.drop_of_length_le (by omega)]
    rfl
  | succ d ih =>
    intro j A a b hj hA h0 h1
    have ox := ho (l[j]'(by omega)) (List.getElem_mem _)
    unfold SpanOk at ox
    have e1 : wrap64 ((j : Int) + 1) = ((j + 1 : Nat) : Int) := by rw [wr _ (by omega) (by omega)]; omega
    have el : (A ++ [a, b]).length = A.length + 2 := by simp
    have e2 : wrap64 (((A ++ [a, b]).length : Int) - 1) = ((A.length + 1 : Nat) : Int) := by rw [el, wr _ (by omega) (by omega)]; omega
    have e3 : rd (A ++ [a, b]) ((A.length + 1 : Nat) : Int) = b := by
      rw [rd_nat]
      simp [List.getD_eq_getElem?_getD, List.getElem?_append_right]
    have e4 : (A ++ [a, b]).set (A.length + 1) (mx b (l[j]'(by omega)).f1) = A ++ [a, mx b (l[j]'(by omega)).f1] := by
      rw [List.set_append_right _ _ (by omega), show A.length + 1 - A.length = 1 from by omega]
      rfl
    rw [List.drop_eq_getElem_cons (show j < l.length by omega), mrgV]
    by_cases h : (l[j]'(by omega)).f0 ≤ b + 1
    · rw [if_pos h]
      refine Ev.step (f := fun k => impl_setOf.l0 k l (A ++ [a, mx b (l[j]'(by omega)).f1]) l (l.length : Int) ((j + 1 : Nat) : Int)) (fun k => ?_) (ih (j + 1) A a (mx b (l[j]'(by omega)).f1) (by omega) (by omega) (by unfold mx; split <;> omega) (by unfold mx; split <;> omega))
      simp only [impl_setOf.l0]
      rw [if_pos (by omega), if_pos (by omega), if_pos (by omega), e2, if_pos (by omega), if_pos (by omega), if_pos (by rw [el]; omega), e3, rdSm_at l j (by omega), wr (b + 1) (by omega) (by omega), if_pos h, Int.toNat_natCast, e4, e1]
    · rw [if_neg h]
      have ih' := ih (j + 1) (A ++ [a, b]) (l[j]'(by omega)).f0 (l[j]'(by omega)).f1 (by omega) (by omega) (by omega) (by omega)
      refine Ev.step (f := fun k => impl_setOf.l0 k l (A ++ [a, b] ++ [(l[j]'(by omega)).f0, (l[j]'(by omega)).f1]) l (l.length : Int) ((j + 1 : Nat) : Int)) (fun k => ?_) (by simpa using ih')
      simp only [impl_setOf.l0]
      rw [if_pos (by omega), if_pos (by omega), if_pos (by omega), e2, if_pos (by omega), if_pos (by omega), if_pos (by rw [el]; omega), e3, rdSm_at l j (by omega), wr (b + 1) (by omega) (by omega), if_neg h, e1]
      simp only [Option.bind_some]
      rw [if_pos (by rw [el]; simp only [List.length_cons, List.length_nil]; omega)]

theorem implMrg_ev (l : List S48) (hl : l.length ≤ 1099511627776) (ho : ∀ x ∈ l, SpanOk x) : Ev (fun k => impl_setOf.l0 k l [] l (l.length : Int) 0) (mrgA l, l) := by
  match l, hl, ho with
  | [], _, _ =>
    refine Ev.step (f := fun _ => some (mrgA [], [])) (fun k => ?_) (Ev.now _)
    simp only [impl_setOf.l0]
    rw [if_neg (by simp)]
    rfl
  | x :: r, hl, ho =>
    have ox := ho x (by simp)
    unfold SpanOk at ox
    have := implMrg_l (x :: r) hl ho r.length 1 [] x.f0 x.f1 (by simp; omega) (by simp) (by omega) (by omega)
    refine Ev.step (f := fun k => impl_setOf.l0 k (x :: r) [x.f0, x.f1] (x :: r) ((x :: r).length : Int) ((1 : Nat) : Int)) (fun k => ?_) (by simpa [mrgA] using this)
    simp only [impl_setOf.l0]
    rw [if_pos (by simp only [List.length_cons]; omega), if_pos (by omega), if_pos (by simp only [List.length_cons]; omega), wr _ (by simp) (by simp), if_neg (by simp), wr _ (by omega) (by omega), show rd_T48 (x :: r) 0 = x from rfl]
    simp only [Option.bind_some]
    rw [if_pos (by simp)]
    rfl

/-- What setOf makes of spans: a set, with the spans' runes. -/
theorem implSetOf_ev (l : List S48) (hl : l.length ≤ 1099511627776) (ho : ∀ x ∈ l, SpanOk x) : ∃ s q, Ev (fun k => impl_setOf.f k l) (s, q) ∧ Good 0 s = true ∧ (∀ n, memV n s = anyS n l) ∧ s.length ≤ 2 * l.length + 2 := by
  have hb : ∀ x ∈ l, 0 ≤ x.f0 ∧ x.f0 ≤ 1099511627776 := fun x hx => by have := ho x hx; unfold SpanOk at this; omega
  obtain ⟨hp, hs⟩ := sortV_spec l hb
  have hlen := hp.length_eq
  have ho2 : ∀ x ∈ sortV l hb, SpanOk x := fun x hx => ho x (hp.mem_iff.1 hx)
  have he := implMrg_ev (sortV l hb) (by omega) ho2
  have ha : ∀ n, anyS n (sortV l hb) = anyS n l := fun n => by
    unfold anyS
    rw [Bool.eq_iff_iff, List.any_eq_true, List.any_eq_true]
    exact ⟨fun ⟨x, hx, h⟩ => ⟨x, hp.mem_iff.1 hx, h⟩, fun ⟨x, hx, h⟩ => ⟨x, hp.mem_iff.2 hx, h⟩⟩
  refine ⟨mrgA (sortV l hb), sortV l hb, ?_, ?_, ?_, ?_⟩
  · refine Ev.congr (f := fun k => impl_setOf.l0 k (sortV l hb) [] (sortV l hb) ((sortV l hb).length : Int) 0) (fun k => ?_) he
    unfold impl_setOf.f impl_span.f
    rw [dif_pos ⟨rfl, by omega, hb⟩, hlen]
    rfl
  · generalize sortV l hb = m at hs ho2
    match m with
    | [] => rfl
    | x :: r =>
      have ox := ho2 x (by simp)
      unfold SpanOk at ox
      obtain ⟨p1, p2⟩ := List.pairwise_cons.1 hs
      exact mrg_good r 0 _ _ (fun y hy => ho2 y (by simp [hy])) p1 p2 (by omega) (by omega) (by omega)
  · intro n
    rw [← ha n]
    generalize sortV l hb = m at hs ho2
    match m with
    | [] => rfl
    | x :: r =>
      have ox := ho2 x (by simp)
      unfold SpanOk at ox
      obtain ⟨p1, p2⟩ := List.pairwise_cons.1 hs
      rw [mrgA, mrg_mem r n _ _ (fun y hy => ho2 y (by simp [hy])) p1 p2 (by omega)]
      simp [anyS]
  · rw [← hlen]
    generalize sortV l hb = m
    match m with
    | [] => simp [mrgA]
    | x :: r =>
      have := mrg_length r x.f0 x.f1
      rw [mrgA]
      simp only [List.length_cons]; omega
/-- A set as it is told: itself, if it is good. -/
def made (l : List Int) : List Int × Bool := if GoodS l = true then (l, true) else ([], false)
theorem specMade_ev (l : List Int) (hl : l.length ≤ 17592186044416) : Ev (fun k => spec_l4Made.f k l) (made l) := by
  unfold spec_l4Made.f made
  refine Ev.bind (specSet_ev l hl) ?_
  cases GoodS l with
  | false => exact Ev.congr (fun k => by rw [if_neg (by simp)]) (by simpa using Ev.now (([] : List Int), false))
  | true => exact Ev.congr (fun k => by rw [if_pos rfl]) (by simpa using Ev.now (l, true))
theorem implMade_ev (l : List Int) (hl : l.length ≤ 17592186044416) : Ev (fun k => impl_goodSet.f k l) (made l) := by
  unfold impl_goodSet.f made
  refine Ev.bind (implSet_ev l hl) ?_
  cases GoodS l with
  | false => exact Ev.congr (fun k => by rw [if_neg (by simp)]) (by simpa using Ev.now (([] : List Int), false))
  | true => exact Ev.congr (fun k => by rw [if_pos rfl]) (by simpa using Ev.now (l, true))
theorem made_length (l : List Int) : (made l).1.length ≤ 24 := by
  unfold made
  cases h : GoodS l with
  | false => simp
  | true =>
    unfold GoodS at h
    rw [Bool.and_eq_true, decide_eq_true_eq] at h
    simpa using h.2

theorem spansV_mem (n : Int) (l : List Int) : anyS n (spansV l) = memV n l := by
  match l with
  | [] => rfl
  | [_] => rfl
  | a :: b :: t =>
    have ih := spansV_mem n t
    unfold anyS at ih ⊢
    simp only [spansV, memV, List.any_cons, ih]
termination_by l.length

theorem spansV_ok (l : List Int) : ∀ c, 0 ≤ c → Good c l = true → ∀ x ∈ spansV l, SpanOk x := by
  match l with
  | [] => intro c _ _ x hx; cases hx
  | [_] => intro c _ h; simp [Good] at h
  | a :: b :: t =>
    intro c hc h x hx
    obtain ⟨g1, g2, g3, g4⟩ := good_cons.1 h
    simp only [spansV, List.mem_cons] at hx
    rcases hx with rfl | hx
    · exact ⟨by show 0 ≤ a; omega, g2, g3⟩
    · exact spansV_ok t (b + 2) (by omega) g4 x hx
termination_by l.length

theorem anyS_append (n : Int) (l m : List S48) : anyS n (l ++ m) = (anyS n l || anyS n m) := by simp [anyS]

theorem goodS_good (l : List Int) (h : GoodS l = true) : Good 0 l = true := by
  unfold GoodS at h
  rw [Bool.and_eq_true] at h
  exact h.1
def hasF (l : List Int) (c : Int) : Bool := memV c l || memV (c + 32) l
def foldTo (l : List Int) : Nat → Int → List Int → List Int
  | 0, _, acc => acc
  | d + 1, c, acc => foldTo l d (c + 1) (if hasF l c = true then addV (c + 32) (c + 32) (addV c c acc) else acc)
def foldM (l : List Int) (n : Int) : Nat → Int → Bool
  | 0, _ => false
  | d + 1, c => (hasF l c && (inB c c n || inB (c + 32) (c + 32) n)) || foldM l n d (c + 1)
def foldSp (l : List Int) : Nat → Int → List S48
  | 0, _ => []
  | d + 1, c => (if hasF l c = true then [(⟨c, c⟩ : S48), ⟨c + 32, c + 32⟩] else []) ++ foldSp l d (c + 1)

theorem foldTo_ok (l : List Int) : ∀ (d : Nat) (c : Int) (acc : List Int), 0 ≤ c → c + d ≤ 1000 → Good 0 acc = true → Good 0 (foldTo l d c acc) = true ∧ (∀ n, memV n (foldTo l d c acc) = (memV n acc || foldM l n d c)) ∧ (foldTo l d c acc).length ≤ acc.length + 4 * d := by
  intro d
  induction d with
  | zero => intro c acc _ _ h; exact ⟨h, fun n => by simp [foldTo, foldM], by simp [foldTo]⟩
  | succ d ih =>
    intro c acc h0 h1 h
    have g1 := add_good acc 0 c c h h0 (by omega) (by omega)
    have g2 := add_good _ 0 (c + 32) (c + 32) g1 (by omega) (by omega) (by omega)
    have n1 := add_length acc c c
    have n2 := add_length (addV c c acc) (c + 32) (c + 32)
    rw [foldTo]
    cases hf : hasF l c with
    | false =>
      rw [if_neg (by simp)]
      obtain ⟨i1, i2, i3⟩ := ih (c + 1) acc (by omega) (by omega) h
      exact ⟨i1, fun n => by rw [i2, foldM, hf]; simp, by omega⟩
    | true =>
      rw [if_pos rfl]
      obtain ⟨i1, i2, i3⟩ := ih (c + 1) (addV (c + 32) (c + 32) (addV c c acc)) (by omega) (by omega) g2
      refine ⟨i1, fun n => ?_, by omega⟩
      rw [i2, foldM, hf, add_mem _ n 0 _ _ g1 (by omega), add_mem acc n 0 _ _ h (by omega), Bool.true_and]
      cases inB c c n <;> cases inB (c + 32) (c + 32) n <;> cases memV n acc <;> rfl

theorem foldSp_ok (l : List Int) : ∀ (d : Nat) (c : Int), 0 ≤ c → c + d ≤ 1000 → (∀ x ∈ foldSp l d c, SpanOk x) ∧ (∀ n, anyS n (foldSp l d c) = foldM l n d c) ∧ (foldSp l d c).length ≤ 2 * d := by
  intro d
  induction d with
  | zero => intro c _ _; exact ⟨fun x hx => (by cases hx), fun n => rfl, by simp [foldSp]⟩
  | succ d ih =>
    intro c h0 h1
    obtain ⟨i1, i2, i3⟩ := ih (c + 1) (by omega) (by omega)
    rw [foldSp]
    cases hf : hasF l c with
    | false =>
      rw [if_neg (by simp), List.nil_append]
      exact ⟨i1, fun n => by rw [i2, foldM, hf]; simp, by omega⟩
    | true =>
      rw [if_pos rfl]
      refine ⟨fun x hx => ?_, fun n => ?_, by rw [List.length_append]; simp only [List.length_cons, List.length_nil]; omega⟩
      · rcases List.mem_append.1 hx with hx | hx
        · simp only [List.mem_cons, List.not_mem_nil, or_false] at hx
          rcases hx with rfl | rfl
          · exact ⟨h0, Int.le_refl _, by show c ≤ 1114111; omega⟩
          · exact ⟨by show 0 ≤ c + 32; omega, Int.le_refl _, by show c + 32 ≤ 1114111; omega⟩
        · exact i1 x hx
      · rw [anyS_append, i2, foldM, hf, Bool.true_and]
        congr 1
        simp [anyS]

theorem specFold_l (l : List Int) (hl : l.length ≤ 1000) (he : l.length % 2 = 0) : ∀ (d : Nat) (c : Int) (acc : List Int), c + d = 91 → 65 ≤ c → acc.length ≤ 1000000 - 4 * d → Good 0 acc = true → Ev (fun k => spec_l4FoldSet.l0 k l acc c) (foldTo l d c acc) := by
  intro d
  induction d with
  | zero =>
    intro c acc hc h0 ha hg
    refine Ev.step (f := fun _ => some acc) (fun k => ?_) (Ev.now _)
    simp only [spec_l4FoldSet.l0]
    rw [if_neg (by omega)]
  | succ d ih =>
    intro c acc hc h0 ha hg
    have g1 := add_good acc 0 c c hg (by omega) (by omega) (by omega)
    have g2 := add_good _ 0 (c + 32) (c + 32) g1 (by omega) (by omega) (by omega)
    have n1 := add_length acc c c
    have n2 := add_length (addV c c acc) (c + 32) (c + 32)
    have w1 : wrap64 (c + 32) = c + 32 := wr _ (by omega) (by omega)
    have w2 : wrap64 (c + 1) = c + 1 := wr _ (by omega) (by omega)
    have jt : Ev (fun k => spec_l4FoldSet.j1 k l acc c true) (foldTo l d (c + 1) (addV (c + 32) (c + 32) (addV c c acc))) := by
      refine Ev.step (fun k => by simp only [spec_l4FoldSet.j1]; rw [if_pos trivial, w1, w2]) ?_
      exact Ev.bind (add_ev acc (by omega) c c hg (by omega) (by omega) (by omega)) (Ev.bind (add_ev _ (by omega) (c + 32) (c + 32) g1 (by omega) (by omega) (by omega)) (ih (c + 1) (addV (c + 32) (c + 32) (addV c c acc)) (by omega) (by omega) (by omega) g2))
    have jf : Ev (fun k => spec_l4FoldSet.j1 k l acc c false) (foldTo l d (c + 1) acc) := by
      refine Ev.step (fun k => by simp only [spec_l4FoldSet.j1]; rw [if_neg (by simp), w2]) ?_
      exact ih (c + 1) acc (by omega) (by omega) (by omega) hg
    rw [foldTo]
    refine Ev.step (fun k => by simp only [spec_l4FoldSet.l0]; rw [if_pos (by omega), w1]) ?_
    refine Ev.bind (specIn_ev l c (by omega) he) ?_
    unfold hasF
    cases memV c l with
    | true =>
      rw [Bool.true_or, if_pos rfl]
      exact Ev.congr (fun k => by rw [if_pos rfl]) jt
    | false =>
      refine Ev.congr (fun k => by rw [if_neg (by simp)]) (Ev.bind (specIn_ev l (c + 32) (by omega) he) ?_)
      rw [Bool.false_or]
      cases memV (c + 32) l with
      | true => rw [if_pos rfl]; exact jt
      | false => rw [if_neg (by simp)]; exact jf

theorem specFold_ev (l : List Int) (hl : l.length ≤ 1000) (hg : Good 0 l = true) : Ev (fun k => spec_l4FoldSet.f k l) (foldTo l 26 65 l) := by
  unfold spec_l4FoldSet.f
  rw [own_ev l (by omega)]
  exact Ev.bind (Ev.now _) (specFold_l l hl (good_even l 0 hg) 26 65 l (by omega) (by omega) (by omega) hg)

theorem implFold_l (l : List Int) (hl : l.length ≤ 1000) (r : List Int) : ∀ (d : Nat) (c : Int) (acc : List S48), c + d = 91 → 65 ≤ c → acc.length ≤ 1000000 - 2 * d → Ev (fun k => (impl_setOf.f k (acc ++ foldSp l d c)).bind fun bt240 => (some bt240.1)) r → Ev (fun k => impl_foldSet.l0 k l acc c) r := by
  intro d
  induction d with
  | zero =>
    intro c acc hc h0 ha hr
    rw [foldSp, List.append_nil] at hr
    refine Ev.step (fun k => ?_) hr
    simp only [impl_foldSet.l0]
    rw [if_neg (by omega)]
  | succ d ih =>
    intro c acc hc h0 ha hr
    have w0 : wrap64 c = c := wr _ (by omega) (by omega)
    have w1 : wrap64 (c + 97) = c + 97 := wr _ (by omega) (by omega)
    have w2 : wrap64 (c + 97 - 65) = c + 32 := by rw [wr _ (by omega) (by omega)]; omega
    have w3 : wrap32 (c + 1) = c + 1 := by unfold wrap32; omega
    rw [foldSp, ← List.append_assoc] at hr
    have st : ∀ g : Nat → Option (List Int), (∀ k, g k = (some ([(⟨c, c⟩ : S48), (⟨c + 32, c + 32⟩ : S48)] : List S48)).bind fun y => if acc.length + y.length < 8796093022208 then impl_foldSet.l0 k l (acc ++ y) (c + 1) else none) → Ev (fun k => (impl_setOf.f k (acc ++ [(⟨c, c⟩ : S48), ⟨c + 32, c + 32⟩] ++ foldSp l d (c + 1))).bind fun bt240 => (some bt240.1)) r → Ev g r := by
      intro g hg h
      refine Ev.congr (fun k => ?_) (ih (c + 1) (acc ++ [(⟨c, c⟩ : S48), ⟨c + 32, c + 32⟩]) (by omega) (by omega) (by rw [List.length_append]; simp only [List.length_cons, List.length_nil]; omega) h)
      rw [hg]
      simp only [Option.bind_some]
      rw [if_pos (by simp only [List.length_cons, List.length_nil]; omega)]
    refine Ev.step (fun k => by simp only [impl_foldSet.l0]; rw [if_pos (by omega), w0, w1, w2, w3]) ?_
    refine Ev.bind (implIn_ev l c (by omega)) ?_
    unfold hasF at hr
    cases hm : memV c l with
    | true =>
      rw [hm, Bool.true_or, if_pos rfl] at hr
      refine st _ (fun k => ?_) hr
      rw [if_pos rfl]
    | false =>
      refine Ev.congr (fun k => by rw [if_neg (by simp)]) (Ev.bind (implIn_ev l (c + 32) (by omega)) ?_)
      rw [hm, Bool.false_or] at hr
      cases hm2 : memV (c + 32) l with
      | true =>
        rw [hm2, if_pos rfl] at hr
        refine st _ (fun k => ?_) hr
        rw [if_pos rfl]
      | false =>
        rw [hm2, if_neg (by simp), List.append_nil] at hr
        refine Ev.congr (fun k => by rw [if_neg (by simp)]) (ih (c + 1) acc (by omega) (by omega) (by omega) hr)

theorem implFold_ev (l : List Int) (hl : l.length ≤ 1000) (hg : Good 0 l = true) : Ev (fun k => impl_foldSet.f k l) (foldTo l 26 65 l) := by
  obtain ⟨g1, g2, g3⟩ := foldTo_ok l 26 65 l (by omega) (by omega) hg
  obtain ⟨s1, s2, s3⟩ := foldSp_ok l 26 65 (by omega) (by omega)
  have n1 := spansV_length l
  obtain ⟨s, q, e1, e2, e3, e4⟩ := implSetOf_ev (spansV l ++ foldSp l 26 65) (by rw [List.length_append]; omega) (by
    intro x hx
    rcases List.mem_append.1 hx with hx | hx
    · exact spansV_ok l 0 (by omega) hg x hx
    · exact s1 x hx)
  have es : s = foldTo l 26 65 l := good_ext s _ 0 0 e2 g1 fun n => by rw [e3, g2, anyS_append, spansV_mem, s2]
  subst es
  unfold impl_foldSet.f
  refine Ev.bind (spansOf_ev l (by omega)) (implFold_l l hl _ 26 65 (spansV l) (by omega) (by omega) (by omega) ?_)
  exact Ev.bind e1 (Ev.now _)

/-- FoldSet. -/
def foldR (l : List Int) : List Int × Bool := if GoodS l = true then made (foldTo l 26 65 l) else ([], false)
theorem foldR_length (l : List Int) : (foldR l).1.length ≤ 24 := by
  unfold foldR
  split
  · exact made_length _
  · simp
theorem foldR_spec (l : List Int) (hl : l.length ≤ 17592186044416) : Ev (fun k => spec_FoldSet.f k l) (foldR l) := by
  unfold spec_FoldSet.f foldR
  refine Ev.bind (specSet_ev l hl) ?_
  cases hg : GoodS l with
  | false => exact Ev.congr (fun k => by rw [if_neg (by simp)]) (by simpa using Ev.now (([] : List Int), false))
  | true =>
    obtain ⟨h1, h2, h3⟩ := goodS_facts l hg
    obtain ⟨g1, g2, g3⟩ := foldTo_ok l 26 65 l (by omega) (by omega) (goodS_good l hg)
    refine Ev.congr (fun k => by rw [if_pos rfl]) (Ev.bind (specFold_ev l (by omega) (goodS_good l hg)) (Ev.bind (specMade_ev (foldTo l 26 65 l) (by omega)) ?_))
    simpa using Ev.now (made (foldTo l 26 65 l))
theorem foldR_impl (l : List Int) (hl : l.length ≤ 17592186044416) : Ev (fun k => impl_FoldSet.f k l) (foldR l) := by
  unfold impl_FoldSet.f foldR
  refine Ev.bind (implSet_ev l hl) ?_
  cases hg : GoodS l with
  | false => exact Ev.congr (fun k => by rw [if_neg (by simp)]) (by simpa using Ev.now (([] : List Int), false))
  | true =>
    obtain ⟨h1, h2, h3⟩ := goodS_facts l hg
    obtain ⟨g1, g2, g3⟩ := foldTo_ok l 26 65 l (by omega) (by omega) (goodS_good l hg)
    refine Ev.congr (fun k => by rw [if_pos rfl]) (Ev.bind (implFold_ev l (by omega) (goodS_good l hg)) (Ev.bind (implMade_ev (foldTo l 26 65 l) (by omega)) ?_))
    simpa using Ev.now (made (foldTo l 26 65 l))
theorem FnExactFoldSet : laws_FnExactFoldSet.Pure := by
  intro l hm hs _
  refine Ev.rounds (r := true) ?_
  unfold laws_FnExactFoldSet.f
  by_cases h : (l.length : Int) > 1048576
  · exact Ev.congr (fun k => by rw [if_pos h]) (Ev.now true)
  · refine Ev.congr (fun k => by rw [if_neg h]) ?_
    have hl : l.length ≤ 17592186044416 := by omega
    have hx := foldR_length l
    have cs := foldR_spec l hl
    have ci := foldR_impl l hl
    generalize foldR l = q at hx cs ci
    obtain ⟨x, b⟩ := q
    replace hx : x.length ≤ 24 := hx
    have j2 : Ev (fun k => laws_FnExactFoldSet.j2 k (iota 1 x.length) (1 + (x.length : Int)) false) true := by
      refine Ev.step (fun k => by simp only [laws_FnExactFoldSet.j2]; rw [if_neg (by simp)]) ?_
      refine Ev.bind (heldIntS_ev 1 x.length (by omega) (by omega)) ?_
      exact Ev.congr (fun k => by rw [if_neg (by omega), if_pos rfl]) (Ev.now true)
    have j1 : Ev (fun k => laws_FnExactFoldSet.j1 k l x b x false) true := by
      refine Ev.step (fun k => by simp only [laws_FnExactFoldSet.j1]; rw [if_neg (by simp)]) ?_
      refine Ev.bind (markIntS_ev x 1 (by omega) (by omega)) (Ev.bind (heldIntS_ev 1 x.length (by omega) (by omega)) ?_)
      refine Ev.congr (fun k => by rw [if_neg (by omega), if_pos rfl]) (Ev.bind (toIntS_ev l hl) (Ev.bind ci (Ev.bind (eqIntS_ev x x (by omega)) ?_)))
      simp only [decide_true, if_true, bne_self_eq_false]
      exact j2
    have j0 : Ev (fun k => laws_FnExactFoldSet.j0 k l x b l x b false) true := by
      refine Ev.step (fun k => by simp only [laws_FnExactFoldSet.j0]; rw [if_neg (by simp)]) ?_
      refine Ev.bind (toIntS_ev l hl) (Ev.bind (eqIntS_ev l l hl) ?_)
      simp only [decide_true, if_true]
      refine Ev.bind (markIntS_ev l 1 (by omega) (by omega)) ?_
      refine Ev.congr (fun k => by rw [if_neg (by omega)]) (Ev.bind (eqIntS_ev x x (by omega)) ?_)
      simp only [decide_true, if_true, bne_self_eq_false]
      exact j1
    refine Ev.bind (toIntS_ev l hl) (Ev.bind cs (Ev.bind (toIntS_ev l hl) (Ev.bind ci (Ev.bind (eqIntS_ev x x (by omega)) ?_))))
    simp only [decide_true, if_true, bne_self_eq_false]
    exact j0

end Go.Proofs.Ythincjdobjccfaa.Pure
