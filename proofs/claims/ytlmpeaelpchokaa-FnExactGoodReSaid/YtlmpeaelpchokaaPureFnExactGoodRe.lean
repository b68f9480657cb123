/-
  For every input the law FnExactGoodRe returns true; no condition.
-/
import Derived.Test.YtlmpeaelpchokaaHFnExactGoodRex11
namespace Go.Proofs.Ytlmpeaelpchokaa.Pure
open Go.RowKit Go.Proofs.Ytlmpeaelpchokaa.HFnExactGoodRe Go.Proofs.YtlmpeaelpchokaaW.PrintWords Go.Proofs.YtlmpeaelpchokaaW.PrintLast
set_option linter.unusedSimpArgs false
set_option linter.unusedVariables false
theorem wr (i : Int) (h0 : -9223372036854775808 ≤ i) (h1 : i ≤ 9223372036854775807) : wrap64 i = i := by unfold wrap64; omega

theorem rd_nat (l : List Int) (j : Nat) : rd l (j : Int) = l.getD j 0 := by unfold rd; simp

theorem getD_at (l : List Int) (j : Nat) (h : j < l.length) : l.getD j 0 = l[j] := by simp [List.getD_eq_getElem?_getD, h]

theorem rd_at (l : List Int) (j : Nat) (h : j < l.length) : rd l (j : Int) = l[j] := by rw [rd_nat, getD_at l j h]

theorem drop_at (l : List Int) (j : Nat) (h : j < l.length) : l.drop j = l[j] :: l.drop (j + 1) := List.drop_eq_getElem_cons h

theorem toIntS_l (l : List Int) (hl : l.length ≤ 17592186044416) : ∀ (d j : Nat) (o : List Int), j + d = l.length → o.length = l.length → (∀ i, i < j → o.getD i 0 = l.getD i 0) → Ev (fun k => laws_toIntS.l0 k l o (j : Int)) l := by
  intro d
  induction d with
  | zero =>
    intro j o hj ho he
    refine Ev.step (f := fun _ => some l) (fun k => ?_) (Ev.now l)
    simp only [laws_toIntS.l0]
    rw [if_neg (by omega)]
    congr 1
    refine List.ext_getElem (by omega) fun i h1 h2 => ?_
    have := he i (by omega)
    rwa [getD_at o i h1, getD_at l i h2] at this
  | succ d ih =>
    intro j o hj ho he
    refine Ev.step (f := fun k => laws_toIntS.l0 k l (o.set j (l.getD j 0)) ((j + 1 : Nat) : Int)) (fun k => ?_) (ih (j + 1) _ (by omega) (by rw [List.length_set]; exact ho) fun i hi => ?_)
    · simp only [laws_toIntS.l0]
      rw [if_pos (by omega), if_pos (by omega), if_pos (by omega), wr _ (by omega) (by omega), rd_nat]
      simp
    · by_cases e : i = j
      · subst e
        rw [getD_at _ _ (by rw [List.length_set]; omega)]
        simp
      · rw [← he i (by omega)]
        simp [List.getD_eq_getElem?_getD, List.getElem?_set, Ne.symm e]

theorem toIntS_ev (l : List Int) (hl : l.length ≤ 17592186044416) : Ev (fun k => laws_toIntS.f k l) l := by
  refine Ev.congr (f := fun k => laws_toIntS.l0 k l (List.replicate l.length 0) ((0 : Nat) : Int)) (fun k => ?_) (toIntS_l l hl l.length 0 _ (by omega) (by simp) (fun i hi => by omega))
  unfold laws_toIntS.f
  rw [if_pos (by omega), if_pos (by omega)]
  simp

theorem eqIntS_l (a b : List Int) (hab : a.length = b.length) (hl : a.length ≤ 17592186044416) : ∀ (d j : Nat), j + d = a.length → a.take j = b.take j → Ev (fun k => laws_eqIntS.l0 k a b (j : Int)) (decide (a = b)) := by
  intro d
  induction d with
  | zero =>
    intro j hj ht
    refine Ev.step (f := fun _ => some (decide (a = b))) (fun k => ?_) (Ev.now _)
    simp only [laws_eqIntS.l0]
    rw [if_neg (by omega)]
    rw [List.take_of_length_le (by omega), List.take_of_length_le (by omega)] at ht
    simp [ht]
  | succ d ih =>
    intro j hj ht
    by_cases e : a[j]'(by omega) = b[j]'(by omega)
    · refine Ev.step (f := fun k => laws_eqIntS.l0 k a b ((j + 1 : Nat) : Int)) (fun k => ?_) (ih (j + 1) (by omega) ?_)
      · simp only [laws_eqIntS.l0]
        rw [if_pos (by omega), if_pos (by omega), if_pos (by omega), rd_at a j (by omega), rd_at b j (by omega), if_pos e, wr _ (by omega) (by omega)]
        simp
      · rw [List.take_succ_eq_append_getElem (by omega), List.take_succ_eq_append_getElem (by omega), ht, e]
    · refine Ev.step (f := fun _ => some (decide (a = b))) (fun k => ?_) (Ev.now _)
      simp only [laws_eqIntS.l0]
      rw [if_pos (by omega), if_pos (by omega), if_pos (by omega), rd_at a j (by omega), rd_at b j (by omega), if_neg e]
      have : ¬ a = b := fun h => e (by subst h; rfl)
      simp [this]

theorem eqIntS_ev (a b : List Int) (hl : a.length ≤ 17592186044416) : Ev (fun k => laws_eqIntS.f k a b) (decide (a = b)) := by
  by_cases h : a.length = b.length
  · refine Ev.congr (f := fun k => laws_eqIntS.l0 k a b ((0 : Nat) : Int)) (fun k => ?_) (eqIntS_l a b h hl a.length 0 (by omega) (by simp))
    unfold laws_eqIntS.f
    rw [if_pos (by omega)]
    simp
  · refine Ev.congr (f := fun _ => some (decide (a = b))) (fun k => ?_) (Ev.now _)
    unfold laws_eqIntS.f
    rw [if_neg (by omega)]
    have : ¬ a = b := fun e => h (by rw [e])
    simp [this]

/-- Within bounds. -/
def inB (lo hi n : Int) : Bool := decide (lo ≤ n ∧ n ≤ hi)
theorem inB_iff (lo hi n : Int) : inB lo hi n = true ↔ lo ≤ n ∧ n ≤ hi := by simp [inB]

theorem in_s (a b c : Int) : spec_l1In.f a b c = some (inB b c a) := by
  unfold spec_l1In.f inB
  by_cases h : a ≥ b
  · rw [if_pos h]; simp [show b ≤ a from h]
  · rw [if_neg h]; simp [show ¬ b ≤ a from h]

theorem in_i (a b c : Int) : impl_inRange.f a b c = some (inB b c a) := by
  unfold impl_inRange.f inB
  by_cases h : b ≤ a
  · rw [if_pos h]; simp [h]
  · rw [if_neg h]; simp [h]

def isR (a : Int) : Bool := inB 0 1114111 a && !inB 55296 57343 a
theorem gr_s (a : Int) : spec_GoodRune.f a = some (isR a) := by
  unfold spec_GoodRune.f isR
  rw [in_s, in_s]
  simp only [Option.bind_some]
  cases inB 0 1114111 a <;> simp

theorem gr_i (a : Int) : impl_GoodRune.f a = some (isR a) := by
  unfold impl_GoodRune.f isR
  rw [in_i, in_i]
  simp only [Option.bind_some]
  cases inB 0 1114111 a <;> simp

theorem specAllRunes_l (l : List Int) (hl : l.length ≤ 17592186044416) : ∀ (d j : Nat), j + d = l.length → Ev (fun k => spec_l1AllRunes.l0 k l l (l.length : Int) (j : Int)) ((l.drop j).all isR && decide (l.length ≤ 1000)) := by
  intro d
  induction d with
  | zero =>
    intro j hj
    refine Ev.step (f := fun _ => some ((l.drop j).all isR && decide (l.length ≤ 1000))) (fun k => ?_) (Ev.now _)
    simp only [spec_l1AllRunes.l0]
    rw [if_neg (by omega), List.drop_of_length_le (by omega)]
    simp
    omega
  | succ d ih =>
    intro j hj
    rw [drop_at l j (by omega), List.all_cons]
    cases e : isR (l[j]'(by omega)) with
    | true =>
      refine Ev.step (f := fun k => spec_l1AllRunes.l0 k l l (l.length : Int) ((j + 1 : Nat) : Int)) (fun k => ?_) (by simpa using ih (j + 1) (by omega))
      simp only [spec_l1AllRunes.l0]
      rw [if_pos (by omega), if_pos (by omega), if_pos (by omega), rd_at l j (by omega), gr_s, wr _ (by omega) (by omega), e]
      simp
    | false =>
      refine Ev.step (f := fun _ => some false) (fun k => ?_) (by simpa using Ev.now false)
      simp only [spec_l1AllRunes.l0]
      rw [if_pos (by omega), if_pos (by omega), if_pos (by omega), rd_at l j (by omega), gr_s, e]
      simp

theorem specAllRunes_ev (l : List Int) (hl : l.length ≤ 17592186044416) : Ev (fun k => spec_l1AllRunes.f k l) (l.all isR && decide (l.length ≤ 1000)) :=
  Ev.congr (fun k => by unfold spec_l1AllRunes.f; rfl) (by simpa using specAllRunes_l l hl l.length 0 (by omega))

theorem l1All_l (lo hi : Int) (l : List Int) (hl : l.length ≤ 17592186044416) : ∀ (d j : Nat), j + d = l.length → Ev (fun k => spec_l1All.l0 k lo hi l (l.length : Int) (j : Int)) ((l.drop j).all (inB lo hi)) := by
  intro d
  induction d with
  | zero =>
    intro j hj
    refine Ev.step (f := fun _ => some ((l.drop j).all (inB lo hi))) (fun k => ?_) (Ev.now _)
    simp only [spec_l1All.l0]
    rw [if_neg (by omega), List.drop_of_length_le (by omega)]
    rfl
  | succ d ih =>
    intro j hj
    cases e : inB lo hi (l[j]'(by omega)) with
    | true =>
      refine Ev.step (f := fun k => spec_l1All.l0 k lo hi l (l.length : Int) ((j + 1 : Nat) : Int)) (fun k => ?_) ?_
      · simp only [spec_l1All.l0]
        rw [if_pos (by omega), if_pos (by omega), if_pos (by omega), rd_at l j (by omega), in_s, wr _ (by omega) (by omega), e]
        simp
      · rw [drop_at l j (by omega), List.all_cons, e, Bool.true_and]
        exact ih (j + 1) (by omega)
    | false =>
      refine Ev.step (f := fun _ => some ((l.drop j).all (inB lo hi))) (fun k => ?_) (Ev.now _)
      simp only [spec_l1All.l0]
      rw [if_pos (by omega), if_pos (by omega), if_pos (by omega), rd_at l j (by omega), in_s, e, drop_at l j (by omega), List.all_cons, e]
      simp

theorem l1All_ev (l : List Int) (hl : l.length ≤ 17592186044416) (lo hi : Int) : Ev (fun k => spec_l1All.f k l lo hi) (l.all (inB lo hi)) :=
  Ev.congr (fun k => by unfold spec_l1All.f; rfl) (l1All_l lo hi l hl l.length 0 (by omega))

/-- A set: pairs, each rising, each two ahead of the last one. -/
def Good : Int → List Int → Bool
  | least, a :: b :: r => decide (least ≤ a) && decide (a ≤ b) && decide (b ≤ 1114111) && Good (b + 2) r
  | _, [] => true
  | _, [_] => false

theorem good_mono (l : List Int) : ∀ (a b : Int), a ≤ b → Good b l = true → Good a l = true := by
  intro a b h hg
  match l with
  | [] => rfl
  | [_] => simp [Good] at hg
  | x :: y :: r =>
    simp only [Good, Bool.and_eq_true, decide_eq_true_eq] at hg ⊢
    exact ⟨⟨⟨by omega, hg.1.1.2⟩, hg.1.2⟩, hg.2⟩

/-- A set, with at most twelve spans. -/
def GoodS (l : List Int) : Bool := Good 0 l && decide (l.length ≤ 24)

theorem good_even (l : List Int) : ∀ a, Good a l = true → l.length % 2 = 0 := by
  match l with
  | [] => intro a _; rfl
  | [_] => intro a h; simp [Good] at h
  | x :: y :: r =>
    intro a h
    simp only [Good, Bool.and_eq_true] at h
    have := good_even r _ h.2
    simp only [List.length_cons]
    omega
termination_by l.length

theorem good_all (l : List Int) : ∀ a, 0 ≤ a → Good a l = true → ∀ x ∈ l, 0 ≤ x ∧ x ≤ 1114111 := by
  match l with
  | [] => intro a _ _ x hx; cases hx
  | [_] => intro a _ h; simp [Good] at h
  | y :: z :: r =>
    intro a ha h x hx
    simp [Good] at h
    simp only [List.mem_cons] at hx
    rcases hx with rfl | rfl | hx
    · omega
    · omega
    · exact good_all r (z + 2) (by omega) h.2 x hx
termination_by l.length

def lst (l : List Int) (j : Nat) : Int := if j = 0 then 0 else l.getD (j - 1) 0 + 2

theorem specSet_l (l : List Int) (hl : l.length ≤ 17592186044416) (hr : ∀ x ∈ l, 0 ≤ x ∧ x ≤ 1114111) : ∀ (d j : Nat), j + 2 * d = l.length → Ev (fun k => spec_GoodSet.l0 k l (j : Int)) (Good (lst l j) (l.drop j)) := by
  intro d
  induction d with
  | zero =>
    intro j hj
    refine Ev.step (f := fun _ => some (Good (lst l j) (l.drop j))) (fun k => ?_) (Ev.now _)
    simp only [spec_GoodSet.l0]
    rw [if_neg (by omega), List.drop_of_length_le (by omega)]
    rfl
  | succ d ih =>
    intro j hj
    have ha : 0 ≤ l[j]'(by omega) ∧ l[j]'(by omega) ≤ 1114111 := hr _ (List.getElem_mem _)
    have hb : 0 ≤ l[j + 1]'(by omega) ∧ l[j + 1]'(by omega) ≤ 1114111 := hr _ (List.getElem_mem _)
    have e1 : wrap64 ((j : Int) + 1) = ((j + 1 : Nat) : Int) := by rw [wr _ (by omega) (by omega)]; omega
    have e2 : wrap64 ((j : Int) + 2) = ((j + 2 : Nat) : Int) := by rw [wr _ (by omega) (by omega)]; omega
    have hd : l.drop j = l[j]'(by omega) :: l[j + 1]'(by omega) :: l.drop (j + 2) := by rw [drop_at l j (by omega), drop_at l (j + 1) (by omega)]
    have hn : lst l (j + 2) = l[j + 1]'(by omega) + 2 := by
      unfold lst
      rw [if_neg (by omega), show j + 2 - 1 = j + 1 from by omega, getD_at l (j + 1) (by omega)]
    have ih' := ih (j + 2) (by omega)
    rw [hn] at ih'
    have hg : Good (lst l j) (l.drop j) = (decide (lst l j ≤ l[j]'(by omega)) && decide (l[j]'(by omega) ≤ l[j + 1]'(by omega)) && decide (l[j + 1]'(by omega) ≤ 1114111) && Good (l[j + 1]'(by omega) + 2) (l.drop (j + 2))) := by
      rw [hd, Good]
    rw [hg]
    by_cases h1 : l[j]'(by omega) > l[j + 1]'(by omega)
    · refine Ev.step (f := fun _ => some false) (fun k => ?_) ?_
      · simp only [spec_GoodSet.l0]
        rw [e1, if_pos (by omega), if_pos (by omega), if_pos (by omega), if_pos (by omega), rd_at l j (by omega), rd_at l (j + 1) (by omega), if_pos h1]
      · rw [show decide (l[j]'(by omega) ≤ l[j + 1]'(by omega)) = false from decide_eq_false (by omega)]
        simpa using Ev.now false
    · rw [show decide (l[j]'(by omega) ≤ l[j + 1]'(by omega)) = true from decide_eq_true (by omega), show decide (l[j + 1]'(by omega) ≤ 1114111) = true from decide_eq_true (by omega)]
      by_cases h0 : j = 0
      · subst h0
        rw [show decide (lst l 0 ≤ l[0]'(by omega)) = true from decide_eq_true (by unfold lst; simp; omega)]
        refine Ev.step (f := fun k => spec_GoodSet.l0 k l ((0 + 2 : Nat) : Int)) (fun k => ?_) (by simpa using ih')
        simp only [spec_GoodSet.l0]
        rw [e1, if_pos (by omega), if_pos (by omega), if_pos (by omega), if_pos (by omega), rd_at l 0 (by omega), rd_at l (0 + 1) (by omega), if_neg h1, if_neg (by omega), e2]
      · have e3 : wrap64 ((j : Int) - 1) = ((j - 1 : Nat) : Int) := by rw [wr _ (by omega) (by omega)]; omega
        have hp : 0 ≤ l[j - 1]'(by omega) ∧ l[j - 1]'(by omega) ≤ 1114111 := hr _ (List.getElem_mem _)
        have hs : lst l j = l[j - 1]'(by omega) + 2 := by unfold lst; rw [if_neg h0, getD_at l (j - 1) (by omega)]
        rw [hs]
        by_cases h2 : l[j]'(by omega) < l[j - 1]'(by omega) + 2
        · refine Ev.step (f := fun _ => some false) (fun k => ?_) ?_
          · simp only [spec_GoodSet.l0]
            rw [e1, if_pos (by omega), if_pos (by omega), if_pos (by omega), if_pos (by omega), rd_at l j (by omega), rd_at l (j + 1) (by omega), if_neg h1, if_pos (by omega), e3, if_pos (by omega), if_pos (by omega), rd_at l (j - 1) (by omega), wr (l[j - 1]'(by omega) + 2) (by omega) (by omega), if_pos h2]
          · rw [show decide (l[j - 1]'(by omega) + 2 ≤ l[j]'(by omega)) = false from decide_eq_false (by omega)]
            simpa using Ev.now false
        · refine Ev.step (f := fun k => spec_GoodSet.l0 k l ((j + 2 : Nat) : Int)) (fun k => ?_) ?_
          · simp only [spec_GoodSet.l0]
            rw [e1, if_pos (by omega), if_pos (by omega), if_pos (by omega), if_pos (by omega), rd_at l j (by omega), rd_at l (j + 1) (by omega), if_neg h1, if_pos (by omega), e3, if_pos (by omega), if_pos (by omega), rd_at l (j - 1) (by omega), wr (l[j - 1]'(by omega) + 2) (by omega) (by omega), if_neg h2, e2]
          · rw [show decide (l[j - 1]'(by omega) + 2 ≤ l[j]'(by omega)) = true from decide_eq_true (by omega)]
            simpa using ih'

theorem goodS_bad (l : List Int) (h : ¬ (l.length % 2 = 0 ∧ l.length ≤ 24 ∧ l.all (inB 0 1114111) = true)) : GoodS l = false := by
  cases hg : GoodS l with
  | false => rfl
  | true =>
    unfold GoodS at hg
    rw [Bool.and_eq_true, decide_eq_true_eq] at hg
    refine absurd ⟨good_even l 0 hg.1, hg.2, ?_⟩ h
    rw [List.all_eq_true]
    intro x hx
    exact (inB_iff _ _ _).2 (good_all l 0 (by omega) hg.1 x hx)

theorem specSet_ev (l : List Int) (hl : l.length ≤ 17592186044416) : Ev (fun k => spec_GoodSet.f k l) (GoodS l) := by
  have jt : Ev (fun k => spec_GoodSet.j0 k l true) false := Ev.step (f := fun _ => some false) (fun k => by simp [spec_GoodSet.j0]) (Ev.now _)
  unfold spec_GoodSet.f
  by_cases h1 : l.length % 2 = 1
  · rw [goodS_bad l (by omega)]
    exact Ev.congr (fun k => by rw [if_pos (by omega)]) jt
  · by_cases h2 : l.length ≤ 24
    · refine Ev.congr (f := fun k => (spec_l1All.f k l 0 1114111).bind fun t => spec_GoodSet.j0 k l (!t)) (fun k => by rw [if_neg (by omega), if_neg (by omega)]) ?_
      refine Ev.bind (l1All_ev l hl 0 1114111) ?_
      cases ha : l.all (inB 0 1114111) with
      | false =>
        rw [goodS_bad l (by rw [ha]; simp)]
        exact jt
      | true =>
        refine Ev.step (f := fun k => spec_GoodSet.l0 k l ((0 : Nat) : Int)) (fun k => by simp [spec_GoodSet.j0]) ?_
        have := specSet_l l hl (fun x hx => (inB_iff _ _ _).1 (List.all_eq_true.1 ha x hx)) (l.length / 2) 0 (by omega)
        have e : GoodS l = Good (lst l 0) (l.drop 0) := by unfold GoodS lst; simp [h2]
        rw [e]
        exact this
    · rw [goodS_bad l (by omega)]
      exact Ev.congr (fun k => by rw [if_neg (by omega), if_pos (by omega)]) jt

/-- As the program asks it: number by number. -/
def GA : Bool → Int → List Int → Bool
  | _, _, [] => true
  | p, least, n :: r => inB least 1114111 n && GA (!p) (if p = true then n else n + 2) r

theorem ga_good (l : List Int) : ∀ a, l.length % 2 = 0 → GA true a l = Good a l := by
  match l with
  | [] => intro a _; rfl
  | [_] => intro a h; simp at h
  | x :: y :: r =>
    intro a h
    have ih := ga_good r (y + 2) (by simp only [List.length_cons] at h; omega)
    simp only [GA, Good, Bool.not_true, if_true, Bool.not_false, Bool.false_eq_true, if_false, ih]
    rw [Bool.eq_iff_iff]
    simp only [Bool.and_eq_true, inB_iff, decide_eq_true_eq]
    refine ⟨fun ⟨⟨h1, h2⟩, h3, h4⟩ => ⟨⟨⟨h1, h3.1⟩, h3.2⟩, h4⟩, fun ⟨⟨⟨h1, h2⟩, h3⟩, h4⟩ => ⟨⟨h1, by omega⟩, ⟨h2, h3⟩, h4⟩⟩
termination_by l.length

def lsi (l : List Int) (j : Nat) : Int := if j = 0 then 0 else if j % 2 = 0 then l.getD (j - 1) 0 + 2 else l.getD (j - 1) 0

theorem implSet_l (l : List Int) (hl : l.length ≤ 17592186044416) : ∀ (d j : Nat), j + d = l.length → (j ≠ 0 → l.getD (j - 1) 0 ≤ 1114111) → (j ≠ 0 → 0 ≤ l.getD (j - 1) 0) →
    Ev (fun k => impl_GoodSet.l0 k l l (l.length : Int) (j : Int)) (GA (j % 2 == 0) (lsi l j) (l.drop j) && decide (l.length % 2 = 0 ∧ l.length ≤ 24)) := by
  intro d
  induction d with
  | zero =>
    intro j hj _ _
    refine Ev.step (f := fun _ => some (GA (j % 2 == 0) (lsi l j) (l.drop j) && decide (l.length % 2 = 0 ∧ l.length ≤ 24))) (fun k => ?_) (Ev.now _)
    simp only [impl_GoodSet.l0]
    rw [if_neg (by omega), List.drop_of_length_le (by omega)]
    simp only [GA, Bool.true_and]
    by_cases h : l.length % 2 = 0
    · rw [if_pos (by omega)]
      simp [h]
      omega
    · rw [if_neg (by omega)]
      simp [h]
  | succ d ih =>
    intro j hj hp0 hp1
    have e1 : wrap64 ((j : Int) + 1) = ((j + 1 : Nat) : Int) := by rw [wr _ (by omega) (by omega)]; omega
    rw [drop_at l j (by omega), GA]
    have fin : ∀ (g : Nat → Option Bool), (∀ k, g (k + 1) = (impl_inRange.f (l[j]'(by omega)) (lsi l j) 1114111).bind fun t => if t = true then impl_GoodSet.l0 k l l (l.length : Int) (wrap64 ((j : Int) + 1)) else some false) →
        Ev g ((inB (lsi l j) 1114111 (l[j]'(by omega)) && GA (!(j % 2 == 0)) (if (j % 2 == 0) = true then l[j]'(by omega) else l[j]'(by omega) + 2) (l.drop (j + 1))) && decide (l.length % 2 = 0 ∧ l.length ≤ 24)) := by
      intro g hg
      cases hi : inB (lsi l j) 1114111 (l[j]'(by omega)) with
      | false =>
        refine Ev.step (f := fun _ => some false) (fun k => ?_) (by simpa using Ev.now false)
        rw [hg, in_i, hi]
        simp
      | true =>
        have hb := (inB_iff _ _ _).1 hi
        have h0 : 0 ≤ lsi l j := by
          unfold lsi
          by_cases z : j = 0
          · rw [if_pos z]; omega
          · have := hp1 z
            rw [if_neg z]
            by_cases z2 : j % 2 = 0
            · rw [if_pos z2]; omega
            · rw [if_neg z2]; omega
        refine Ev.step (f := fun k => impl_GoodSet.l0 k l l (l.length : Int) ((j + 1 : Nat) : Int)) (fun k => ?_) ?_
        · rw [hg, in_i, hi, e1]
          simp
        · have hq : l.getD (j + 1 - 1) 0 = l[j]'(by omega) := by rw [show j + 1 - 1 = j from by omega, getD_at l j (by omega)]
          have := ih (j + 1) (by omega) (fun _ => by rw [hq]; omega) (fun _ => by rw [hq]; omega)
          have es : lsi l (j + 1) = if (j % 2 == 0) = true then l[j]'(by omega) else l[j]'(by omega) + 2 := by
            unfold lsi
            rw [if_neg (by omega), hq]
            by_cases z : j % 2 = 0
            · rw [if_neg (by omega), if_pos (by simpa using z)]
            · rw [if_pos (by omega), if_neg (by simpa using z)]
          have ep : ((j + 1) % 2 == 0) = !(j % 2 == 0) := by
            by_cases z : j % 2 = 0
            · have : ¬ (j + 1) % 2 = 0 := by omega
              simp [z, this]
            · have : (j + 1) % 2 = 0 := by omega
              simp [z, this]
          rw [es, ep] at this
          rw [Bool.true_and]
          exact this
    by_cases z : j = 0
    · subst z
      refine Ev.step (f := fun k => impl_GoodSet.j1 k l ((0 : Nat) : Int) (l[0]'(by omega)) 0 l (l.length : Int) ((0 : Nat) : Int) false) (fun k => ?_) (fin _ fun k => ?_)
      · simp only [impl_GoodSet.l0]
        rw [if_pos (by omega), if_pos (by omega), if_pos (by omega), if_neg (by omega), rd_at l 0 (by omega)]
      · simp only [impl_GoodSet.j1]
        rw [if_neg (by simp), if_neg (by omega)]
        rfl
    · have e3 : wrap64 ((j : Int) - 1) = ((j - 1 : Nat) : Int) := by rw [wr _ (by omega) (by omega)]; omega
      have q0 := hp0 z
      have q1 := hp1 z
      have et : ((Int.tmod (j : Int) 2) == 0) = (j % 2 == 0) := by
        rw [show (2 : Int) = ((2 : Nat) : Int) from rfl, ← Int.ofNat_tmod, Bool.eq_iff_iff]
        simp only [beq_iff_eq]
        omega
      refine Ev.step (f := fun k => impl_GoodSet.j1 k l (j : Int) (l[j]'(by omega)) 0 l (l.length : Int) (j : Int) (j % 2 == 0)) (fun k => ?_) (fin _ fun k => ?_)
      · simp only [impl_GoodSet.l0]
        rw [if_pos (by omega), if_pos (by omega), if_pos (by omega), if_pos (by omega), rd_at l j (by omega), et]
      · simp only [impl_GoodSet.j1]
        by_cases z2 : j % 2 = 0
        · rw [if_pos (by simpa using z2), e3, if_pos (by omega), if_pos (by omega), rd_nat, wr (l.getD (j - 1) 0 + 2) (by omega) (by omega)]
          unfold lsi
          rw [if_neg z, if_pos z2]
        · rw [if_neg (by simpa using z2), if_pos (by omega), e3, if_pos (by omega), if_pos (by omega), rd_nat]
          unfold lsi
          rw [if_neg z, if_neg z2]

theorem implSet_ev (l : List Int) (hl : l.length ≤ 17592186044416) : Ev (fun k => impl_GoodSet.f k l) (GoodS l) := by
  have h := implSet_l l hl l.length 0 (by omega) (fun h => absurd rfl h) (fun h => absurd rfl h)
  have e : GoodS l = (GA (0 % 2 == 0) (lsi l 0) (l.drop 0) && decide (l.length % 2 = 0 ∧ l.length ≤ 24)) := by
    by_cases hev : l.length % 2 = 0
    · show (Good 0 l && decide (l.length ≤ 24)) = (GA true 0 l && _)
      rw [ga_good l 0 hev]
      simp [hev]
    · rw [goodS_bad l (by omega)]
      simp [hev]
  rw [e]
  exact Ev.congr (fun k => by unfold impl_GoodSet.f; rfl) h

theorem goodS_facts (l : List Int) (h : GoodS l = true) : l.length ≤ 24 ∧ l.length % 2 = 0 ∧ ∀ x ∈ l, 0 ≤ x ∧ x ≤ 1114111 := by
  unfold GoodS at h
  rw [Bool.and_eq_true, decide_eq_true_eq] at h
  exact ⟨h.2, good_even l 0 h.1, good_all l 0 (by omega) h.1⟩

theorem rdS_L (l : List S48) (j : Nat) (h : j < l.length) : rd_T48 l (j : Int) = l[j] := by unfold rd_T48; simp [List.getD_eq_getElem?_getD, h]
theorem rdS_I (l : List S49) (j : Nat) (h : j < l.length) : rd_T49 l (j : Int) = l[j] := by unfold rd_T49; simp [List.getD_eq_getElem?_getD, h]
def toI (x : S48) : S49 := ⟨x.f0, x.f1⟩
/-- A pattern within bounds. -/
def SmallRe (l : List S48) : Prop := l.length ≤ 1048576 ∧ ∀ x ∈ l, x.f1.length ≤ 1048576
theorem szIntS_v (l : List Int) (b : Int) (h0 : 0 ≤ b) (h1 : b ≤ 1048576) (hl : l.length ≤ 9223372036854775807) : laws_szIntS.f l b = some (if b - (l.length : Int) < 0 then -1 else b - (l.length : Int)) := by
  unfold laws_szIntS.f
  rw [wr _ (by omega) (by omega)]
  split <;> rfl
theorem szRe_v (op : Int) (l : List Int) (b : Int) (h0 : 0 ≤ b) (h1 : b ≤ 1048576) (hl : l.length ≤ 9223372036854775807) : laws_szRe.f op l b = some (if b - (l.length : Int) < 0 then -1 else b - (l.length : Int)) := by
  unfold laws_szRe.f
  rw [szIntS_v l b h0 h1 hl, Option.bind_some]
  by_cases c : b - (l.length : Int) < 0
  · rw [if_pos c, if_pos (by omega)]
  · rw [if_neg c, if_neg c]
def szNodes : Int → List S48 → Int
  | b, [] => b
  | b, x :: t => if b - (x.f1.length : Int) < 0 then -1 else szNodes (b - (x.f1.length : Int)) t
theorem szNodes_ok (l : List S48) : ∀ b, 0 ≤ b → szNodes b l ≤ b ∧ (szNodes b l < 0 ∨ (∀ x ∈ l, (x.f1.length : Int) ≤ b)) := by
  induction l with
  | nil => intro b _; exact ⟨Int.le_refl _, Or.inr (fun r h => by cases h)⟩
  | cons x t ih =>
    intro b hb
    rw [szNodes]
    by_cases c : b - (x.f1.length : Int) < 0
    · rw [if_pos c]; exact ⟨by omega, Or.inl (by omega)⟩
    · rw [if_neg c]
      obtain ⟨h1, h2⟩ := ih (b - (x.f1.length : Int)) (by omega)
      refine ⟨by omega, h2.imp id fun h r hr => ?_⟩
      rcases List.mem_cons.1 hr with rfl | hr
      · omega
      · have := h r hr; omega
theorem szReS_l (l : List S48) (hl : l.length ≤ 1048576) (hr : ∀ x ∈ l, x.f1.length ≤ 9223372036854775807) : ∀ (d j : Nat) (b : Int), j + d = l.length → 0 ≤ b → b ≤ 1048576 → Ev (fun k => laws_szReS.l0 k l b (j : Int)) (szNodes b (l.drop j)) := by
  intro d
  induction d with
  | zero =>
    intro j b hj h0 h1
    refine Ev.step (f := fun _ => some b) (fun k => ?_) (by rw [List.drop_of_length_le (by omega)]; exact Ev.now _)
    simp only [laws_szReS.l0]
    rw [if_neg (by omega)]
  | succ d ih =>
    intro j b hj h0 h1
    have hj' : j < l.length := by omega
    rw [List.drop_eq_getElem_cons hj', szNodes]
    refine Ev.step (f := fun k => (laws_szRe.f (l[j]'hj').f0 (l[j]'hj').f1 b).bind fun t => if t < 0 then some (-1) else laws_szReS.l0 k l t ((j + 1 : Nat) : Int)) (fun k => ?_) ?_
    · simp only [laws_szReS.l0]
      rw [if_pos (by omega), if_pos (by omega), rdS_L l j hj', wr ((j : Int) + 1) (by omega) (by omega)]
      rfl
    · rw [szRe_v _ _ _ h0 h1 (hr _ (List.getElem_mem hj'))]
      refine Ev.bind (Ev.now _) ?_
      by_cases c : b - ((l[j]'hj').f1.length : Int) < 0
      · rw [if_pos c, if_pos c]
        exact Ev.congr (fun k => by rw [if_pos (by omega)]) (Ev.now _)
      · rw [if_neg c, if_neg c]
        exact Ev.congr (fun k => by rw [if_neg c]) (ih (j + 1) _ (by omega) (by omega) (by omega))
theorem szReS_ev (l : List S48) (hl : l.length ≤ 9223372036854775807) (hr : ∀ x ∈ l, x.f1.length ≤ 9223372036854775807) : ∃ v, Ev (fun k => laws_szReS.f k l 1048576) v ∧ (v < 0 ∨ SmallRe l) := by
  unfold laws_szReS.f
  rw [wr (1048576 - (l.length : Int)) (by omega) (by omega)]
  by_cases c : 1048576 - (l.length : Int) < 0
  · exact ⟨-1, Ev.congr (fun k => by rw [if_pos c]) (Ev.now _), Or.inl (by omega)⟩
  · obtain ⟨g1, g2⟩ := szNodes_ok l (1048576 - (l.length : Int)) (by omega)
    exact ⟨szNodes (1048576 - (l.length : Int)) l, Ev.congr (fun k => by rw [if_neg c]; rfl) (szReS_l l (by omega) hr l.length 0 _ (by omega) (by omega) (by omega)), g2.imp id fun h => ⟨by omega, fun r hr => by have := h r hr; omega⟩⟩

theorem toReS_l (l : List S48) (h : SmallRe l) : ∀ (d j : Nat) (o : List S49), j + d = l.length → o.length = l.length → (∀ i (hi : i < l.length), i < j → o[i]? = some (toI l[i])) → Ev (fun k => laws_toReS.l0 k l o (j : Int)) (l.map toI) := by
  obtain ⟨h1, h2⟩ := h
  intro d
  induction d with
  | zero =>
    intro j o hj ho he
    refine Ev.step (f := fun _ => some (l.map toI)) (fun k => ?_) (Ev.now _)
    simp only [laws_toReS.l0]
    rw [if_neg (by omega)]
    congr 1
    refine List.ext_getElem (by rw [List.length_map]; omega) fun i g1 g2 => ?_
    rw [List.length_map] at g2
    have := he i g2 (by omega)
    rw [List.getElem?_eq_getElem g1] at this
    rw [Option.some.inj this, List.getElem_map]
  | succ d ih =>
    intro j o hj ho he
    have hj' : j < l.length := by omega
    have e1 : wrap64 ((j : Int) + 1) = ((j + 1 : Nat) : Int) := by rw [wr _ (by omega) (by omega)]; omega
    have tr : Ev (fun k => laws_toRe.f k (l[j]'hj').f0 (l[j]'hj').f1) ((l[j]'hj').f0, (l[j]'hj').f1) := by
      unfold laws_toRe.f
      exact Ev.bind (toIntS_ev _ (by have := h2 _ (List.getElem_mem hj'); omega)) (Ev.now _)
    refine Ev.step (f := fun k => (laws_toRe.f k (l[j]'hj').f0 (l[j]'hj').f1).bind fun t => laws_toReS.l0 k l (o.set j ⟨t.1, t.2⟩) ((j + 1 : Nat) : Int)) (fun k => ?_) (Ev.bind tr (ih (j + 1) (o.set j (toI (l[j]'hj'))) (by omega) (by rw [List.length_set]; exact ho) fun i hi hlt => ?_))
    · simp only [laws_toReS.l0]
      rw [if_pos (by omega), if_pos (by omega), rdS_L l j hj', e1]
      congr 1
      funext t
      rw [if_pos (by omega)]
      simp
    · by_cases e : i = j
      · subst e
        rw [List.getElem?_set_self (by omega)]
      · rw [List.getElem?_set_ne (fun h => e h.symm)]
        exact he i hi (by omega)
theorem toReS_ev (l : List S48) (h : SmallRe l) : Ev (fun k => laws_toReS.f k l) (l.map toI) := by
  have h1 := h.1
  refine Ev.congr (f := fun k => laws_toReS.l0 k l (List.replicate l.length z49) ((0 : Nat) : Int)) (fun k => ?_) (toReS_l l h l.length 0 _ (by omega) (by simp) (fun i hi h => absurd h (by omega)))
  unfold laws_toReS.f
  rw [if_pos (by omega), if_pos (by omega)]
  simp
theorem eqReS_l (l : List S49) (h1 : l.length ≤ 1048576) (h2 : ∀ x ∈ l, x.f1.length ≤ 1048576) : ∀ (d j : Nat), j + d = l.length → Ev (fun k => laws_eqReS.l0 k l l (j : Int)) true := by
  intro d
  induction d with
  | zero =>
    intro j hj
    refine Ev.step (f := fun _ => some true) (fun k => ?_) (Ev.now _)
    simp only [laws_eqReS.l0]
    rw [if_neg (by omega)]
  | succ d ih =>
    intro j hj
    have hj' : j < l.length := by omega
    have er : Ev (fun k => laws_eqRe.f k (l[j]'hj').f0 (l[j]'hj').f1 (l[j]'hj').f0 (l[j]'hj').f1) true := by
      unfold laws_eqRe.f
      refine Ev.congr (fun k => by rw [if_pos rfl]) (Ev.bind (eqIntS_ev (l[j]'hj').f1 (l[j]'hj').f1 (by have := h2 _ (List.getElem_mem hj'); omega)) ?_)
      exact Ev.congr (fun k => by rw [if_pos (by simp)]) (Ev.now _)
    refine Ev.step (f := fun k => (laws_eqRe.f k (l[j]'hj').f0 (l[j]'hj').f1 (l[j]'hj').f0 (l[j]'hj').f1).bind fun t => if t = true then laws_eqReS.l0 k l l ((j + 1 : Nat) : Int) else some false) (fun k => ?_) (Ev.bind er (Ev.congr (fun k => by rw [if_pos rfl]) (ih (j + 1) (by omega))))
    simp only [laws_eqReS.l0]
    rw [if_pos (by omega), if_pos (by omega), if_pos (by omega), rdS_I l j hj', wr ((j : Int) + 1) (by omega) (by omega)]
    rfl
theorem eqReS_ev (l : List S49) (h1 : l.length ≤ 1048576) (h2 : ∀ x ∈ l, x.f1.length ≤ 1048576) : Ev (fun k => laws_eqReS.f k l l) true :=
  Ev.congr (fun k => by unfold laws_eqReS.f; rw [if_pos rfl]; rfl) (eqReS_l l h1 h2 l.length 0 (by omega))
theorem small_map (l : List S48) (h : SmallRe l) : (l.map toI).length ≤ 1048576 ∧ ∀ x ∈ l.map toI, x.f1.length ≤ 1048576 := by
  refine ⟨by rw [List.length_map]; exact h.1, fun x hx => ?_⟩
  obtain ⟨y, hy, rfl⟩ := List.mem_map.1 hx
  exact h.2 y hy
/-- How many parts an op has. -/
def arV (a : Int) : Int := if a = 1 then 0 else if a = 2 then 0 else if a = 6 then 1 else if a = 7 then 1 else if a = 3 then 2 else if a = 4 then 2 else if a = 5 then 2 else -1
theorem arV_cases (a : Int) : arV a = 0 ∨ arV a = 1 ∨ arV a = 2 ∨ arV a = -1 := by
  unfold arV
  repeat' split
  all_goals simp
theorem specAr_ev (a : Int) : Ev (fun k => spec_l5Arity.f k a) (arV a) := by
  have j0t : Ev (fun k => spec_l5Arity.j0 k a true) 0 := Ev.step (f := fun _ => some 0) (fun k => by simp [spec_l5Arity.j0]) (Ev.now _)
  have j1t : Ev (fun k => spec_l5Arity.j1 k a true) 1 := Ev.step (f := fun _ => some 1) (fun k => by simp [spec_l5Arity.j1]) (Ev.now _)
  unfold spec_l5Arity.f arV
  by_cases h1 : a = 1
  · rw [if_pos h1]; exact Ev.congr (fun k => by rw [if_pos h1, show (a == 1) = true from by simpa using h1]) j0t
  rw [if_neg h1]
  by_cases h2 : a = 2
  · rw [if_pos h2]; exact Ev.congr (fun k => by rw [if_neg h1, show (a == 2) = true from by simpa using h2]) j0t
  rw [if_neg h2]
  refine Ev.congr (f := fun k => spec_l5Arity.j0 k a false) (fun k => by rw [if_neg h1, show (a == 2) = false from by simpa using h2]) ?_
  by_cases h6 : a = 6
  · rw [if_pos h6]
    exact Ev.step (fun k => by simp only [spec_l5Arity.j0]; rw [if_neg (by simp), if_pos h6, show (a == 6) = true from by simpa using h6]) j1t
  rw [if_neg h6]
  by_cases h7 : a = 7
  · rw [if_pos h7]
    exact Ev.step (fun k => by simp only [spec_l5Arity.j0]; rw [if_neg (by simp), if_neg h6, show (a == 7) = true from by simpa using h7]) j1t
  rw [if_neg h7]
  refine Ev.step (f := fun k => spec_l5Arity.j1 k a false) (fun k => by simp only [spec_l5Arity.j0]; rw [if_neg (by simp), if_neg h6, show (a == 7) = false from by simpa using h7]) ?_
  refine Ev.step (f := fun _ => some (if a = 3 then 2 else if a = 4 then 2 else if a = 5 then 2 else -1)) (fun k => ?_) (Ev.now _)
  simp only [spec_l5Arity.j1]
  rw [if_neg (by simp)]
  split
  · rfl
  · split
    · rfl
    · split <;> rfl
theorem implAr_ev (a : Int) : Ev (fun k => impl_partsOf.f k a) (arV a) := by
  have j0t : Ev (fun k => impl_partsOf.j0 k a true) 0 := Ev.step (f := fun _ => some 0) (fun k => by simp [impl_partsOf.j0]) (Ev.now _)
  have j1t : Ev (fun k => impl_partsOf.j1 k a true) 1 := Ev.step (f := fun _ => some 1) (fun k => by simp [impl_partsOf.j1]) (Ev.now _)
  unfold impl_partsOf.f arV
  by_cases h1 : a = 1
  · rw [if_pos h1]; exact Ev.congr (fun k => by rw [if_pos h1, show (a == 1) = true from by simpa using h1]) j0t
  rw [if_neg h1]
  by_cases h2 : a = 2
  · rw [if_pos h2]; exact Ev.congr (fun k => by rw [if_neg h1, show (a == 2) = true from by simpa using h2]) j0t
  rw [if_neg h2]
  refine Ev.congr (f := fun k => impl_partsOf.j0 k a false) (fun k => by rw [if_neg h1, show (a == 2) = false from by simpa using h2]) ?_
  by_cases h6 : a = 6
  · rw [if_pos h6]
    exact Ev.step (fun k => by simp only [impl_partsOf.j0]; rw [if_neg (by simp), if_pos h6, show (a == 6) = true from by simpa using h6]) j1t
  rw [if_neg h6]
  by_cases h7 : a = 7
  · rw [if_pos h7]
    exact Ev.step (fun k => by simp only [impl_partsOf.j0]; rw [if_neg (by simp), if_neg h6, show (a == 7) = true from by simpa using h7]) j1t
  rw [if_neg h7]
  refine Ev.step (f := fun k => impl_partsOf.j1 k a false) (fun k => by simp only [impl_partsOf.j0]; rw [if_neg (by simp), if_neg h6, show (a == 7) = false from by simpa using h7]) ?_
  refine Ev.step (f := fun _ => some (if a = 3 then 2 else if a = 4 then 2 else if a = 5 then 2 else -1)) (fun k => ?_) (Ev.now _)
  simp only [impl_partsOf.j1]
  rw [if_neg (by simp)]
  split
  · rfl
  · split
    · rfl
    · split <;> rfl

/-- A node's set is as it must be. -/
def setOk (x : S49) : Bool := GoodS x.f1 && (x.f1.all isR && (decide (x.f0 = 2) || decide (x.f1.length = 0)))
/-- The nodes stand as they must. -/
def stackV : Int → List S49 → Bool
  | c, [] => c == 1
  | c, x :: r => decide (0 ≤ arV x.f0) && (decide (arV x.f0 ≤ c) && stackV (c + 1 - arV x.f0) r)
def GoodRV (l : List S49) : Bool := decide (l.length ≤ 40) && (l.all setOk && stackV 0 l)

theorem node_ev (x : S49) (hl : x.f1.length ≤ 1048576) : Ev (fun k => spec_l5Node.f k x.f0 x.f1) (decide (0 ≤ arV x.f0) && setOk x) := by
  have q : ∀ g : Nat → Option Bool, (∀ k, g k = (spec_GoodSet.f k x.f1).bind fun t146 => if t146 = true then (spec_l1AllRunes.f k x.f1).bind fun t147 => some t147 else some false) → Ev g (GoodS x.f1 && x.f1.all isR) := by
    intro g hg
    refine Ev.congr hg (Ev.bind (specSet_ev x.f1 (by omega)) ?_)
    cases hs : GoodS x.f1 with
    | false => exact Ev.congr (fun k => by rw [if_neg (by simp)]) (by simpa using Ev.now false)
    | true =>
      have h24 := (goodS_facts x.f1 hs).1
      refine Ev.congr (fun k => by rw [if_pos rfl]) (Ev.bind (specAllRunes_ev x.f1 (by omega)) ?_)
      rw [show decide (x.f1.length ≤ 1000) = true from decide_eq_true (by omega), Bool.and_true, Bool.true_and]
      exact Ev.now _
  unfold spec_l5Node.f setOk
  refine Ev.bind (specAr_ev x.f0) ?_
  by_cases h0 : arV x.f0 < 0
  · rw [show decide (0 ≤ arV x.f0) = false from decide_eq_false (by omega), Bool.false_and]
    exact Ev.congr (fun k => by rw [if_pos h0]) (Ev.now _)
  · rw [show decide (0 ≤ arV x.f0) = true from decide_eq_true (by omega), Bool.true_and]
    by_cases h2 : x.f0 = 2
    · rw [decide_eq_true h2, Bool.true_or, Bool.and_true]
      exact q _ (fun k => by rw [if_neg h0, if_pos h2])
    · rw [decide_eq_false h2, Bool.false_or]
      by_cases h3 : x.f1.length = 0
      · rw [decide_eq_true h3, Bool.and_true]
        exact q _ (fun k => by rw [if_neg h0, if_neg h2, if_neg (by omega)])
      · rw [decide_eq_false h3, Bool.and_false, Bool.and_false]
        exact Ev.congr (fun k => by rw [if_neg h0, if_neg h2, if_pos (by omega)]) (Ev.now _)
theorem specGoodRe_l (l : List S49) (hl : l.length ≤ 1000) (hr : ∀ x ∈ l, x.f1.length ≤ 1048576) : ∀ (d j : Nat) (c : Int), j + d = l.length → 0 ≤ c → c ≤ j → Ev (fun k => spec_l5Good.l0 k c l (l.length : Int) (j : Int)) ((l.drop j).all setOk && stackV c (l.drop j)) := by
  intro d
  induction d with
  | zero =>
    intro j c hj h0 h1
    refine Ev.step (f := fun _ => some (c == 1)) (fun k => ?_) (by rw [List.drop_of_length_le (by omega)]; exact Ev.now _)
    simp only [spec_l5Good.l0]
    rw [if_neg (by omega)]
  | succ d ih =>
    intro j c hj h0 h1
    have hj' : j < l.length := by omega
    have hx := hr _ (List.getElem_mem hj')
    have e1 : wrap64 ((j : Int) + 1) = ((j + 1 : Nat) : Int) := by rw [wr _ (by omega) (by omega)]; omega
    rw [List.drop_eq_getElem_cons hj', List.all_cons, stackV]
    refine Ev.step (fun k => by simp only [spec_l5Good.l0]; rw [if_pos (by omega), if_pos (by omega), if_pos (by omega), rdS_I l j hj', e1]) ?_
    refine Ev.bind (node_ev (l[j]'hj') hx) ?_
    have hc := arV_cases (l[j]'hj').f0
    by_cases ha : 0 ≤ arV (l[j]'hj').f0
    · rw [decide_eq_true ha, Bool.true_and, Bool.true_and]
      cases setOk (l[j]'hj') with
      | false => exact Ev.congr (fun k => by rw [if_neg (by simp)]) (by simpa using Ev.now false)
      | true =>
        refine Ev.congr (fun k => by rw [if_pos rfl]) (Ev.bind (specAr_ev (l[j]'hj').f0) ?_)
        rw [Bool.true_and]
        by_cases hp : c < arV (l[j]'hj').f0
        · rw [show decide (arV (l[j]'hj').f0 ≤ c) = false from decide_eq_false (by omega), Bool.false_and, Bool.and_false]
          exact Ev.congr (fun k => by rw [if_pos hp]) (Ev.now _)
        · rw [show decide (arV (l[j]'hj').f0 ≤ c) = true from decide_eq_true (by omega), Bool.true_and]
          refine Ev.congr (fun k => by rw [if_neg hp]) (Ev.bind (specAr_ev (l[j]'hj').f0) ?_)
          have e2 : wrap64 (c + wrap64 (1 - arV (l[j]'hj').f0)) = c + 1 - arV (l[j]'hj').f0 := by rw [wr (1 - arV (l[j]'hj').f0) (by omega) (by omega), wr _ (by omega) (by omega)]; omega
          rw [e2]
          exact ih (j + 1) (c + 1 - arV (l[j]'hj').f0) (by omega) (by omega) (by omega)
    · rw [decide_eq_false ha, Bool.false_and, Bool.false_and, Bool.and_false]
      exact Ev.congr (fun k => by rw [if_neg (by simp)]) (Ev.now _)
theorem specGoodRe_ev (l : List S49) (hl : l.length ≤ 1048576) (hr : ∀ x ∈ l, x.f1.length ≤ 1048576) : Ev (fun k => spec_GoodRe.f k l) (GoodRV l) := by
  unfold spec_GoodRe.f GoodRV
  by_cases h : l.length ≤ 40
  · rw [decide_eq_true h, Bool.true_and]
    refine Ev.congr (fun k => by rw [if_pos (by omega)]) (Ev.bind (a := l.all setOk && stackV 0 l) ?_ (Ev.now _))
    unfold spec_l5Good.f
    simpa using specGoodRe_l l (by omega) hr l.length 0 0 (by omega) (by omega) (by omega)
  · rw [decide_eq_false h, Bool.false_and]
    exact Ev.congr (fun k => by rw [if_neg (by omega)]) (Ev.now _)

theorem clone_v (l : List Int) (h : l.length ≤ 1099511627776) : slices_Clone_int_int.f l = some l := by
  unfold slices_Clone_int_int.f
  rw [if_pos (by omega)]
theorem parts_l (l : List S49) (hl : l.length ≤ 1000) : ∀ (d j : Nat) (acc : List (List Int)) (pile : List Int), j + d = l.length → acc.length ≤ j → pile.length ≤ j → ∃ L, Ev (fun k => impl_parts.l0 k acc pile l (l.length : Int) (j : Int)) (L, stackV (pile.length : Int) (l.drop j)) := by
  intro d
  induction d with
  | zero =>
    intro j acc pile hj ha hp
    refine ⟨acc, Ev.step (f := fun _ => some (acc, (pile.length : Int) == 1)) (fun k => ?_) (by rw [List.drop_of_length_le (by omega)]; exact Ev.now _)⟩
    simp only [impl_parts.l0]
    rw [if_neg (by omega)]
  | succ d ih =>
    intro j acc pile hj hacc hp
    have hj' : j < l.length := by omega
    have e1 : wrap64 ((j : Int) + 1) = ((j + 1 : Nat) : Int) := by rw [wr _ (by omega) (by omega)]; omega
    rw [List.drop_eq_getElem_cons hj', stackV]
    have hc := arV_cases (l[j]'hj').f0
    have st : ∀ (g : Nat → Option (List (List Int) × Bool)) r, Ev g r → (∀ k, (if arV (l[j]'hj').f0 < 0 then some (([] : List (List Int)), false) else (if arV (l[j]'hj').f0 > (pile.length : Int) then some (([] : List (List Int)), false) else (if 0 ≤ (wrap64 ((pile.length : Int) - arV (l[j]'hj').f0)) then (if (wrap64 ((pile.length : Int) - arV (l[j]'hj').f0)) ≤ (pile.length : Int) then ((slices_Clone_int_int.f (pile.drop ((wrap64 ((pile.length : Int) - arV (l[j]'hj').f0)) : Int).toNat)).bind fun t180 => (if acc.length < 5864062014805 then ((some (pile.take ((wrap64 ((pile.length : Int) - arV (l[j]'hj').f0)) : Int).toNat : List Int)).bind fun y186 => (if y186.length < 17592186044416 then (impl_parts.l0 k (acc ++ [t180]) (y186 ++ [(j : Int)]) l (l.length : Int) ((j + 1 : Nat) : Int)) else (none))) else (none))) else (none)) else (none)))) = g k) → Ev (fun k => impl_parts.l0 k acc pile l (l.length : Int) (j : Int)) r := by
      intro g r hg he
      refine Ev.step (fun k => by simp only [impl_parts.l0]; rw [if_pos (by omega), if_pos (by omega), if_pos (by omega), rdS_I l j hj', e1]) ?_
      exact Ev.bind (implAr_ev (l[j]'hj').f0) (Ev.congr he hg)
    by_cases ha : 0 ≤ arV (l[j]'hj').f0
    · rw [decide_eq_true ha, Bool.true_and]
      by_cases hq : arV (l[j]'hj').f0 > (pile.length : Int)
      · refine ⟨[], st (fun _ => some ([], false)) _ ?_ (fun k => by rw [if_neg (by omega), if_pos hq])⟩
        rw [show decide (arV (l[j]'hj').f0 ≤ (pile.length : Int)) = false from decide_eq_false (by omega), Bool.false_and]
        exact Ev.now _
      · rw [show decide (arV (l[j]'hj').f0 ≤ (pile.length : Int)) = true from decide_eq_true (by omega), Bool.true_and]
        obtain ⟨n, hn⟩ : ∃ n : Nat, (pile.length : Int) - arV (l[j]'hj').f0 = (n : Int) := ⟨((pile.length : Int) - arV (l[j]'hj').f0).toNat, by omega⟩
        have e2 : wrap64 ((pile.length : Int) - arV (l[j]'hj').f0) = (n : Int) := by rw [hn, wr _ (by omega) (by omega)]
        have hz : (pile.drop n).length ≤ pile.length := by rw [List.length_drop]; omega
        have ht : (pile.take n).length = n := by rw [List.length_take]; omega
        obtain ⟨L, hL⟩ := ih (j + 1) (acc ++ [pile.drop n]) (pile.take n ++ [(j : Int)]) (by omega) (by simp; omega) (by rw [List.length_append, ht]; simp; omega)
        refine ⟨L, st (fun k => impl_parts.l0 k (acc ++ [pile.drop n]) (pile.take n ++ [(j : Int)]) l (l.length : Int) ((j + 1 : Nat) : Int)) _ ?_ (fun k => ?_)⟩
        · rw [List.length_append, ht] at hL
          rw [show (pile.length : Int) + 1 - arV (l[j]'hj').f0 = ((n + [(j : Int)].length : Nat) : Int) from by simp; omega]
          exact hL
        · rw [if_neg (by omega), if_neg hq, e2, if_pos (by omega), if_pos (by omega), Int.toNat_natCast, clone_v _ (by omega), Option.bind_some, if_pos (by omega), Option.bind_some, if_pos (by omega)]
    · refine ⟨[], st (fun _ => some ([], false)) _ ?_ (fun k => by rw [if_pos (by omega)])⟩
      rw [decide_eq_false ha, Bool.false_and]
      exact Ev.now _
theorem parts_ev (l : List S49) (hl : l.length ≤ 1000) : ∃ L, Ev (fun k => impl_parts.f k l) (L, stackV 0 l) := by
  obtain ⟨L, h⟩ := parts_l l hl l.length 0 [] [] (by omega) (by simp) (by simp)
  exact ⟨L, Ev.congr (fun k => by unfold impl_parts.f; rfl) (by simpa using h)⟩

theorem anyO_ev {α : Type} (f : Nat → α → Option Bool) (p : α → Bool) (l : List α) (h : ∀ x ∈ l, Ev (fun k => f k x) (p x)) : Ev (fun k => anyO (f k) l) (l.any p) := by
  have key : ∃ K, ∀ k, K ≤ k → ∀ x ∈ l, f k x = some (p x) := by
    induction l with
    | nil => exact ⟨0, fun k _ x hx => by cases hx⟩
    | cons y t ih =>
      obtain ⟨K1, h1⟩ := ih (fun x hx => h x (by simp [hx]))
      obtain ⟨K2, h2⟩ := h y (by simp)
      refine ⟨max K1 K2, fun k hk x hx => ?_⟩
      rcases List.mem_cons.1 hx with rfl | hx
      · exact h2 k (by omega)
      · exact h1 k (by omega) x hx
  obtain ⟨K, hK⟩ := key
  refine ⟨K, fun k hk => ?_⟩
  have hf := hK k hk
  show anyO (f k) l = some (l.any p)
  unfold anyO
  rw [if_pos (List.all_eq_true.2 fun x hx => by rw [hf x hx]; rfl)]
  congr 1
  rw [Bool.eq_iff_iff, List.any_eq_true, List.any_eq_true]
  exact ⟨fun ⟨x, hx, e⟩ => ⟨x, hx, by rw [hf x hx] at e; exact e⟩, fun ⟨x, hx, e⟩ => ⟨x, hx, by rw [hf x hx]; exact e⟩⟩
theorem badRune_isR (r : Int) : badRuneV r = !isR r := by
  unfold badRuneV goodRuneV isR inB
  rfl
theorem badRe_ev (x : S49) (hl : x.f1.length ≤ 1048576) : Ev (fun k => badReO k x) (!setOk x) := by
  unfold badReO
  refine Ev.bind (implSet_ev x.f1 (by omega)) ?_
  have e : (!GoodS x.f1 || (x.f1.any badRuneV || (decide (x.f0 ≠ 2) && decide ((x.f1.length : Int) > 0)))) = !setOk x := by
    unfold setOk
    have e1 : x.f1.any badRuneV = !x.f1.all isR := by
      rw [List.not_all_eq_any_not]
      exact congrArg x.f1.any (funext badRune_isR)
    have e2 : (decide (x.f0 ≠ 2) && decide ((x.f1.length : Int) > 0)) = !(decide (x.f0 = 2) || decide (x.f1.length = 0)) := by
      rw [Bool.not_or, Bool.eq_iff_iff]
      simp only [Bool.and_eq_true, decide_eq_true_eq, Bool.not_eq_true', decide_eq_false_iff_not]
      omega
    rw [e1, e2, Bool.not_and, Bool.not_and]
  rw [e]
  exact Ev.now _
theorem implGoodRe_ev (l : List S49) (hl : l.length ≤ 1048576) (hr : ∀ x ∈ l, x.f1.length ≤ 1048576) : Ev (fun k => impl_GoodRe.f k l) (GoodRV l) := by
  unfold impl_GoodRe.f GoodRV
  rw [in_i]
  refine Ev.bind (Ev.now _) ?_
  by_cases h : 1 ≤ (l.length : Int) ∧ (l.length : Int) ≤ 40
  · rw [(inB_iff 1 40 _).2 h, decide_eq_true (show l.length ≤ 40 by omega), Bool.true_and]
    refine Ev.congr (fun k => by rw [if_pos rfl]) (Ev.bind (anyO_ev (fun k x => badReO k x) (fun x => !setOk x) l (fun x hx => badRe_ev x (hr x hx))) ?_)
    rw [← List.not_all_eq_any_not]
    cases l.all setOk with
    | false => exact Ev.congr (fun k => by rw [if_pos (by simp)]) (by simpa using Ev.now false)
    | true =>
      obtain ⟨L, hL⟩ := parts_ev l (by omega)
      refine Ev.congr (fun k => by rw [if_neg (by simp)]) (Ev.bind hL ?_)
      rw [Bool.true_and]
      exact Ev.now _
  · rw [show inB 1 40 (l.length : Int) = false from by cases e : inB 1 40 (l.length : Int) with | false => rfl | true => exact absurd ((inB_iff _ _ _).1 e) h]
    refine Ev.congr (fun k => by rw [if_neg (by simp)]) ?_
    by_cases h0 : l.length ≤ 40
    · have : l = [] := List.eq_nil_of_length_eq_zero (by omega)
      subst this
      exact Ev.now _
    · rw [decide_eq_false h0, Bool.false_and]
      exact Ev.now _
theorem FnExactGoodRe (l : List S48) (hl : l.length ≤ 9223372036854775807) (hr : ∀ x ∈ l, x.f1.length ≤ 9223372036854775807) : ∃ k, laws_FnExactGoodRe.f k l = some true := by
  refine Ev.rounds (r := true) ?_
  unfold laws_FnExactGoodRe.f
  obtain ⟨v, e1, e2⟩ := szReS_ev l hl hr
  refine Ev.bind e1 ?_
  by_cases h : v < 0
  · exact Ev.congr (fun k => by rw [if_pos h]) (Ev.now true)
  · have hs := e2.resolve_left h
    obtain ⟨m1, m2⟩ := small_map l hs
    refine Ev.congr (fun k => by rw [if_neg h]) (Ev.bind (toReS_ev l hs) (Ev.bind (specGoodRe_ev (l.map toI) m1 m2) (Ev.bind (toReS_ev l hs) (Ev.bind (implGoodRe_ev (l.map toI) m1 m2) ?_))))
    refine Ev.congr (fun k => by rw [if_neg (by simp)]) (Ev.bind (toReS_ev l hs) (Ev.bind (eqReS_ev (l.map toI) m1 m2) ?_))
    exact Ev.congr (fun k => by rw [if_pos rfl]) (Ev.now true)

end Go.Proofs.Ytlmpeaelpchokaa.Pure
