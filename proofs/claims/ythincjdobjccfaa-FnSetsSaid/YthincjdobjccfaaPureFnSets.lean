/-
  For every input the law FnSets returns true; no condition.
-/
import Derived.Test.YthincjdobjccfaaHFnSetsx17
import Derived.Laws.BitsLemmas
namespace Go.Proofs.Ythincjdobjccfaa.Pure
open Go.RowKit Go.Proofs.Ythincjdobjccfaa.HFnSets Go.Proofs.YthincjdobjccfaaW.PrintWords Go.Proofs.YthincjdobjccfaaW.PrintLast
set_option linter.unusedSimpArgs false
set_option linter.unusedVariables false
theorem wr (i : Int) (h0 : -9223372036854775808 ≤ i) (h1 : i ≤ 9223372036854775807) : wrap64 i = i := by unfold wrap64; omega

theorem rd_nat (l : List Int) (j : Nat) : rd l (j : Int) = l.getD j 0 := by unfold rd; simp

theorem getD_at (l : List Int) (j : Nat) (h : j < l.length) : l.getD j 0 = l[j] := by simp [List.getD_eq_getElem?_getD, h]

theorem rd_at (l : List Int) (j : Nat) (h : j < l.length) : rd l (j : Int) = l[j] := by rw [rd_nat, getD_at l j h]

theorem drop_at (l : List Int) (j : Nat) (h : j < l.length) : l.drop j = l[j] :: l.drop (j + 1) := List.drop_eq_getElem_cons h

/-- Within bounds. -/
def inB (lo hi n : Int) : Bool := decide (lo ≤ n ∧ n ≤ hi)
theorem inB_iff (lo hi n : Int) : inB lo hi n = true ↔ lo ≤ n ∧ n ≤ hi := by simp [inB]

theorem in_s (a b c : Int) : spec_l1In.f a b c = some (inB b c a) := by
  unfold spec_l1In.f inB
  by_cases h : a ≥ b
  · rw [if_pos h]; simp [show b ≤ a from h]
  · rw [if_neg h]; simp [show ¬ b ≤ a from h]

theorem in_i (a b c : Int) : impl_inRange.f a b c = some (inB b c a) := by
  unfold impl_inRange.f inB
  by_cases h : b ≤ a
  · rw [if_pos h]; simp [h]
  · rw [if_neg h]; simp [h]

def isR (a : Int) : Bool := inB 0 1114111 a && !inB 55296 57343 a
theorem gr_s (a : Int) : spec_GoodRune.f a = some (isR a) := by
  unfold spec_GoodRune.f isR
  rw [in_s, in_s]
  simp only [Option.bind_some]
  cases inB 0 1114111 a <;> simp

theorem gr_i (a : Int) : impl_GoodRune.f a = some (isR a) := by
  unfold impl_GoodRune.f isR
  rw [in_i, in_i]
  simp only [Option.bind_some]
  cases inB 0 1114111 a <;> simp

theorem l1All_l (lo hi : Int) (l : List Int) (hl : l.length ≤ 17592186044416) : ∀ (d j : Nat), j + d = l.length → Ev (fun k => spec_l1All.l0 k lo hi l (l.length : Int) (j : Int)) ((l.drop j).all (inB lo hi)) := by
  intro d
  induction d with
  | zero =>
    intro j hj
    refine Ev.step (f := fun _ => some ((l.drop j).all (inB lo hi))) (fun k => ?_) (Ev.now _)
    simp only [spec_l1All.l0]
    rw [if_neg (by omega), List.drop_of_length_le (by omega)]
    rfl
  | succ d ih =>
    intro j hj
    cases e : inB lo hi (l[j]'(by omega)) with
    | true =>
      refine Ev.step (f := fun k => spec_l1All.l0 k lo hi l (l.length : Int) ((j + 1 : Nat) : Int)) (fun k => ?_) ?_
      · simp only [spec_l1All.l0]
        rw [if_pos (by omega), if_pos (by omega), if_pos (by omega), rd_at l j (by omega), in_s, wr _ (by omega) (by omega), e]
        simp
      · rw [drop_at l j (by omega), List.all_cons, e, Bool.true_and]
        exact ih (j + 1) (by omega)
    | false =>
      refine Ev.step (f := fun _ => some ((l.drop j).all (inB lo hi))) (fun k => ?_) (Ev.now _)
      simp only [spec_l1All.l0]
      rw [if_pos (by omega), if_pos (by omega), if_pos (by omega), rd_at l j (by omega), in_s, e, drop_at l j (by omega), List.all_cons, e]
      simp

theorem l1All_ev (l : List Int) (hl : l.length ≤ 17592186044416) (lo hi : Int) : Ev (fun k => spec_l1All.f k l lo hi) (l.all (inB lo hi)) :=
  Ev.congr (fun k => by unfold spec_l1All.f; rfl) (l1All_l lo hi l hl l.length 0 (by omega))

/-- A set: pairs, each rising, each two ahead of the last one. -/
def Good : Int → List Int → Bool
  | least, a :: b :: r => decide (least ≤ a) && decide (a ≤ b) && decide (b ≤ 1114111) && Good (b + 2) r
  | _, [] => true
  | _, [_] => false

theorem good_mono (l : List Int) : ∀ (a b : Int), a ≤ b → Good b l = true → Good a l = true := by
  intro a b h hg
  match l with
  | [] => rfl
  | [_] => simp [Good] at hg
  | x :: y :: r =>
    simp only [Good, Bool.and_eq_true, decide_eq_true_eq] at hg ⊢
    exact ⟨⟨⟨by omega, hg.1.1.2⟩, hg.1.2⟩, hg.2⟩

/-- A set, with at most twelve spans. -/
def GoodS (l : List Int) : Bool := Good 0 l && decide (l.length ≤ 24)

theorem good_even (l : List Int) : ∀ a, Good a l = true → l.length % 2 = 0 := by
  match l with
  | [] => intro a _; rfl
  | [_] => intro a h; simp [Good] at h
  | x :: y :: r =>
    intro a h
    simp only [Good, Bool.and_eq_true] at h
    have := good_even r _ h.2
    simp only [List.length_cons]
    omega
termination_by l.length

theorem good_all (l : List Int) : ∀ a, 0 ≤ a → Good a l = true → ∀ x ∈ l, 0 ≤ x ∧ x ≤ 1114111 := by
  match l with
  | [] => intro a _ _ x hx; cases hx
  | [_] => intro a _ h; simp [Good] at h
  | y :: z :: r =>
    intro a ha h x hx
    simp [Good] at h
    simp only [List.mem_cons] at hx
    rcases hx with rfl | rfl | hx
    · omega
    · omega
    · exact good_all r (z + 2) (by omega) h.2 x hx
termination_by l.length

def lst (l : List Int) (j : Nat) : Int := if j = 0 then 0 else l.getD (j - 1) 0 + 2

theorem specSet_l (l : List Int) (hl : l.length ≤ 17592186044416) (hr : ∀ x ∈ l, 0 ≤ x ∧ x ≤ 1114111) : ∀ (d j : Nat), j + 2 * d = l.length → Ev (fun k => spec_GoodSet.l0 k l (j : Int)) (Good (lst l j) (l.drop j)) := by
  intro d
  induction d with
  | zero =>
    intro j hj
    refine Ev.step (f := fun _ => some (Good (lst l j) (l.drop j))) (fun k => ?_) (Ev.now _)
    simp only [spec_GoodSet.l0]
    rw [if_neg (by omega), List.drop_of_length_le (by omega)]
    rfl
  | succ d ih =>
    intro j hj
    have ha : 0 ≤ l[j]'(by omega) ∧ l[j]'(by omega) ≤ 1114111 := hr _ (List.getElem_mem _)
    have hb : 0 ≤ l[j + 1]'(by omega) ∧ l[j + 1]'(by omega) ≤ 1114111 := hr _ (List.getElem_mem _)
    have e1 : wrap64 ((j : Int) + 1) = ((j + 1 : Nat) : Int) := by rw [wr _ (by omega) (by omega)]; omega
    have e2 : wrap64 ((j : Int) + 2) = ((j + 2 : Nat) : Int) := by rw [wr _ (by omega) (by omega)]; omega
    have hd : l.drop j = l[j]'(by omega) :: l[j + 1]'(by omega) :: l.drop (j + 2) := by rw [drop_at l j (by omega), drop_at l (j + 1) (by omega)]
    have hn : lst l (j + 2) = l[j + 1]'(by omega) + 2 := by
      unfold lst
      rw [if_neg (by omega), show j + 2 - 1 = j + 1 from by omega, getD_at l (j + 1) (by omega)]
    have ih' := ih (j + 2) (by omega)
    rw [hn] at ih'
    have hg : Good (lst l j) (l.drop j) = (decide (lst l j ≤ l[j]'(by omega)) && decide (l[j]'(by omega) ≤ l[j + 1]'(by omega)) && decide (l[j + 1]'(by omega) ≤ 1114111) && Good (l[j + 1]'(by omega) + 2) (l.drop (j + 2))) := by
      rw [hd, Good]
    rw [hg]
    by_cases h1 : l[j]'(by omega) > l[j + 1]'(by omega)
    · refine Ev.step (f := fun _ => some false) (fun k => ?_) ?_
      · simp only [spec_GoodSet.l0]
        rw [e1, if_pos (by omega), if_pos (by omega), if_pos (by omega), if_pos (by omega), rd_at l j (by omega), rd_at l (j + 1) (by omega), if_pos h1]
      · rw [show decide (l[j]'(by omega) ≤ l[j + 1]'(by omega)) = false from decide_eq_false (by omega)]
        simpa using Ev.now false
    · rw [show decide (l[j]'(by omega) ≤ l[j + 1]'(by omega)) = true from decide_eq_true (by omega), show decide (l[j + 1]'(by omega) ≤ 1114111) = true from decide_eq_true (by omega)]
      by_cases h0 : j = 0
      · subst h0
        rw [show decide (lst l 0 ≤ l[0]'(by omega)) = true from decide_eq_true (by unfold lst; simp; omega)]
        refine Ev.step (f := fun k => spec_GoodSet.l0 k l ((0 + 2 : Nat) : Int)) (fun k => ?_) (by simpa using ih')
        simp only [spec_GoodSet.l0]
        rw [e1, if_pos (by omega), if_pos (by omega), if_pos (by omega), if_pos (by omega), rd_at l 0 (by omega), rd_at l (0 + 1) (by omega), if_neg h1, if_neg (by omega), e2]
      · have e3 : wrap64 ((j : Int) - 1) = ((j - 1 : Nat) : Int) := by rw [wr _ (by omega) (by omega)]; omega
        have hp : 0 ≤ l[j - 1]'(by omega) ∧ l[j - 1]'(by omega) ≤ 1114111 := hr _ (List.getElem_mem _)
        have hs : lst l j = l[j - 1]'(by omega) + 2 := by unfold lst; rw [if_neg h0, getD_at l (j - 1) (by omega)]
        rw [hs]
        by_cases h2 : l[j]'(by omega) < l[j - 1]'(by omega) + 2
        · refine Ev.step (f := fun _ => some false) (fun k => ?_) ?_
          · simp only [spec_GoodSet.l0]
            rw [e1, if_pos (by omega), if_pos (by omega), if_pos (by omega), if_pos (by omega), rd_at l j (by omega), rd_at l (j + 1) (by omega), if_neg h1, if_pos (by omega), e3, if_pos (by omega), if_pos (by omega), rd_at l (j - 1) (by omega), wr (l[j - 1]'(by omega) + 2) (by omega) (by omega), if_pos h2]
          · rw [show decide (l[j - 1]'(by omega) + 2 ≤ l[j]'(by omega)) = false from decide_eq_false (by omega)]
            simpa using Ev.now false
        · refine Ev.step (f := fun k => spec_GoodSet.l0 k l ((j + 2 : Nat) : Int)) (fun k => ?_) ?_
          · simp only [spec_GoodSet.l0]
            rw [e1, if_pos (by omega), if_pos (by omega), if_pos (by omega), if_pos (by omega), rd_at l j (by omega), rd_at l (j + 1) (by omega), if_neg h1, if_pos (by omega), e3, if_pos (by omega), if_pos (by omega), rd_at l (j - 1) (by omega), wr (l[j - 1]'(by omega) + 2) (by omega) (by omega), if_neg h2, e2]
          · rw [show decide (l[j - 1]'(by omega) + 2 ≤ l[j]'(by omega)) = true from decide_eq_true (by omega)]
            simpa using ih'

theorem goodS_bad (l : List Int) (h : ¬ (l.length % 2 = 0 ∧ l.length ≤ 24 ∧ l.all (inB 0 1114111) = true)) : GoodS l = false := by
  cases hg : GoodS l with
  | false => rfl
  | true =>
    unfold GoodS at hg
    rw [Bool.and_eq_true, decide_eq_true_eq] at hg
    refine absurd ⟨good_even l 0 hg.1, hg.2, ?_⟩ h
    rw [List.all_eq_true]
    intro x hx
    exact (inB_iff _ _ _).2 (good_all l 0 (by omega) hg.1 x hx)

theorem specSet_ev (l : List Int) (hl : l.length ≤ 17592186044416) : Ev (fun k => spec_GoodSet.f k l) (GoodS l) := by
  have jt : Ev (fun k => spec_GoodSet.j0 k l true) false := Ev.step (f := fun _ => some false) (fun k => by simp [spec_GoodSet.j0]) (Ev.now _)
  unfold spec_GoodSet.f
  by_cases h1 : l.length % 2 = 1
  · rw [goodS_bad l (by omega)]
    exact Ev.congr (fun k => by rw [if_pos (by omega)]) jt
  · by_cases h2 : l.length ≤ 24
    · refine Ev.congr (f := fun k => (spec_l1All.f k l 0 1114111).bind fun t => spec_GoodSet.j0 k l (!t)) (fun k => by rw [if_neg (by omega), if_neg (by omega)]) ?_
      refine Ev.bind (l1All_ev l hl 0 1114111) ?_
      cases ha : l.all (inB 0 1114111) with
      | false =>
        rw [goodS_bad l (by rw [ha]; simp)]
        exact jt
      | true =>
        refine Ev.step (f := fun k => spec_GoodSet.l0 k l ((0 : Nat) : Int)) (fun k => by simp [spec_GoodSet.j0]) ?_
        have := specSet_l l hl (fun x hx => (inB_iff _ _ _).1 (List.all_eq_true.1 ha x hx)) (l.length / 2) 0 (by omega)
        have e : GoodS l = Good (lst l 0) (l.drop 0) := by unfold GoodS lst; simp [h2]
        rw [e]
        exact this
    · rw [goodS_bad l (by omega)]
      exact Ev.congr (fun k => by rw [if_neg (by omega), if_pos (by omega)]) jt

/-- As the program asks it: number by number. -/
def GA : Bool → Int → List Int → Bool
  | _, _, [] => true
  | p, least, n :: r => inB least 1114111 n && GA (!p) (if p = true then n else n + 2) r

theorem ga_good (l : List Int) : ∀ a, l.length % 2 = 0 → GA true a l = Good a l := by
  match l with
  | [] => intro a _; rfl
  | [_] => intro a h; simp at h
  | x :: y :: r =>
    intro a h
    have ih := ga_good r (y + 2) (by simp only [List.length_cons] at h; omega)
    simp only [GA, Good, Bool.not_true, if_true, Bool.not_false, Bool.false_eq_true, if_false, ih]
    rw [Bool.eq_iff_iff]
    simp only [Bool.and_eq_true, inB_iff, decide_eq_true_eq]
    refine ⟨fun ⟨⟨h1, h2⟩, h3, h4⟩ => ⟨⟨⟨h1, h3.1⟩, h3.2⟩, h4⟩, fun ⟨⟨⟨h1, h2⟩, h3⟩, h4⟩ => ⟨⟨h1, by omega⟩, ⟨h2, h3⟩, h4⟩⟩
termination_by l.length

def lsi (l : List Int) (j : Nat) : Int := if j = 0 then 0 else if j % 2 = 0 then l.getD (j - 1) 0 + 2 else l.getD (j - 1) 0

theorem implSet_l (l : List Int) (hl : l.length ≤ 17592186044416) : ∀ (d j : Nat), j + d = l.length → (j ≠ 0 → l.getD (j - 1) 0 ≤ 1114111) → (j ≠ 0 → 0 ≤ l.getD (j - 1) 0) →
    Ev (fun k => impl_GoodSet.l0 k l l (l.length : Int) (j : Int)) (GA (j % 2 == 0) (lsi l j) (l.drop j) && decide (l.length % 2 = 0 ∧ l.length ≤ 24)) := by
  intro d
  induction d with
  | zero =>
    intro j hj _ _
    refine Ev.step (f := fun _ => some (GA (j % 2 == 0) (lsi l j) (l.drop j) && decide (l.length % 2 = 0 ∧ l.length ≤ 24))) (fun k => ?_) (Ev.now _)
    simp only [impl_GoodSet.l0]
    rw [if_neg (by omega), List.drop_of_length_le (by omega)]
    simp only [GA, Bool.true_and]
    by_cases h : l.length % 2 = 0
    · rw [if_pos (by omega)]
      simp [h]
      omega
    · rw [if_neg (by omega)]
      simp [h]
  | succ d ih =>
    intro j hj hp0 hp1
    have e1 : wrap64 ((j : Int) + 1) = ((j + 1 : Nat) : Int) := by rw [wr _ (by omega) (by omega)]; omega
    rw [drop_at l j (by omega), GA]
    have fin : ∀ (g : Nat → Option Bool), (∀ k, g (k + 1) = (impl_inRange.f (l[j]'(by omega)) (lsi l j) 1114111).bind fun t => if t = true then impl_GoodSet.l0 k l l (l.length : Int) (wrap64 ((j : Int) + 1)) else some false) →
        Ev g ((inB (lsi l j) 1114111 (l[j]'(by omega)) && GA (!(j % 2 == 0)) (if (j % 2 == 0) = true then l[j]'(by omega) else l[j]'(by omega) + 2) (l.drop (j + 1))) && decide (l.length % 2 = 0 ∧ l.length ≤ 24)) := by
      intro g hg
      cases hi : inB (lsi l j) 1114111 (l[j]'(by omega)) with
      | false =>
        refine Ev.step (f := fun _ => some false) (fun k => ?_) (by simpa using Ev.now false)
        rw [hg, in_i, hi]
        simp
      | true =>
        have hb := (inB_iff _ _ _).1 hi
        have h0 : 0 ≤ lsi l j := by
          unfold lsi
          by_cases z : j = 0
          · rw [if_pos z]; omega
          · have := hp1 z
            rw [if_neg z]
            by_cases z2 : j % 2 = 0
            · rw [if_pos z2]; omega
            · rw [if_neg z2]; omega
        refine Ev.step (f := fun k => impl_GoodSet.l0 k l l (l.length : Int) ((j + 1 : Nat) : Int)) (fun k => ?_) ?_
        · rw [hg, in_i, hi, e1]
          simp
        · have hq : l.getD (j + 1 - 1) 0 = l[j]'(by omega) := by rw [show j + 1 - 1 = j from by omega, getD_at l j (by omega)]
          have := ih (j + 1) (by omega) (fun _ => by rw [hq]; omega) (fun _ => by rw [hq]; omega)
          have es : lsi l (j + 1) = if (j % 2 == 0) = true then l[j]'(by omega) else l[j]'(by omega) + 2 := by
            unfold lsi
            rw [if_neg (by omega), hq]
            by_cases z : j % 2 = 0
            · rw [if_neg (by omega), if_pos (by simpa using z)]
            · rw [if_pos (by omega), if_neg (by simpa using z)]
          have ep : ((j + 1) % 2 == 0) = !(j % 2 == 0) := by
            by_cases z : j % 2 = 0
            · have : ¬ (j + 1) % 2 = 0 := by omega
              simp [z, this]
            · have : (j + 1) % 2 = 0 := by omega
              simp [z, this]
          rw [es, ep] at this
          rw [Bool.true_and]
          exact this
    by_cases z : j = 0
    · subst z
      refine Ev.step (f := fun k => impl_GoodSet.j1 k l ((0 : Nat) : Int) (l[0]'(by omega)) 0 l (l.length : Int) ((0 : Nat) : Int) false) (fun k => ?_) (fin _ fun k => ?_)
      · simp only [impl_GoodSet.l0]
        rw [if_pos (by omega), if_pos (by omega), if_pos (by omega), if_neg (by omega), rd_at l 0 (by omega)]
      · simp only [impl_GoodSet.j1]
        rw [if_neg (by simp), if_neg (by omega)]
        rfl
    · have e3 : wrap64 ((j : Int) - 1) = ((j - 1 : Nat) : Int) := by rw [wr _ (by omega) (by omega)]; omega
      have q0 := hp0 z
      have q1 := hp1 z
      have et : ((Int.tmod (j : Int) 2) == 0) = (j % 2 == 0) := by
        rw [show (2 : Int) = ((2 : Nat) : Int) from rfl, ← Int.ofNat_tmod, Bool.eq_iff_iff]
        simp only [beq_iff_eq]
        omega
      refine Ev.step (f := fun k => impl_GoodSet.j1 k l (j : Int) (l[j]'(by omega)) 0 l (l.length : Int) (j : Int) (j % 2 == 0)) (fun k => ?_) (fin _ fun k => ?_)
      · simp only [impl_GoodSet.l0]
        rw [if_pos (by omega), if_pos (by omega), if_pos (by omega), if_pos (by omega), rd_at l j (by omega), et]
      · simp only [impl_GoodSet.j1]
        by_cases z2 : j % 2 = 0
        · rw [if_pos (by simpa using z2), e3, if_pos (by omega), if_pos (by omega), rd_nat, wr (l.getD (j - 1) 0 + 2) (by omega) (by omega)]
          unfold lsi
          rw [if_neg z, if_pos z2]
        · rw [if_neg (by simpa using z2), if_pos (by omega), e3, if_pos (by omega), if_pos (by omega), rd_nat]
          unfold lsi
          rw [if_neg z, if_neg z2]

theorem implSet_ev (l : List Int) (hl : l.length ≤ 17592186044416) : Ev (fun k => impl_GoodSet.f k l) (GoodS l) := by
  have h := implSet_l l hl l.length 0 (by omega) (fun h => absurd rfl h) (fun h => absurd rfl h)
  have e : GoodS l = (GA (0 % 2 == 0) (lsi l 0) (l.drop 0) && decide (l.length % 2 = 0 ∧ l.length ≤ 24)) := by
    by_cases hev : l.length % 2 = 0
    · show (Good 0 l && decide (l.length ≤ 24)) = (GA true 0 l && _)
      rw [ga_good l 0 hev]
      simp [hev]
    · rw [goodS_bad l (by omega)]
      simp [hev]
  rw [e]
  exact Ev.congr (fun k => by unfold impl_GoodSet.f; rfl) h

theorem goodS_facts (l : List Int) (h : GoodS l = true) : l.length ≤ 24 ∧ l.length % 2 = 0 ∧ ∀ x ∈ l, 0 ≤ x ∧ x ≤ 1114111 := by
  unfold GoodS at h
  rw [Bool.and_eq_true, decide_eq_true_eq] at h
  exact ⟨h.2, good_even l 0 h.1, good_all l 0 (by omega) h.1⟩

/-- The spans of a set. -/
def spansV : List Int → List S48
  | a :: b :: r => ⟨a, b⟩ :: spansV r
  | _ => []

theorem spansV_length (l : List Int) : (spansV l).length ≤ l.length := by
  match l with
  | [] => simp [spansV]
  | [_] => simp [spansV]
  | a :: b :: r =>
    have := spansV_length r
    simp only [spansV, List.length_cons]
    omega
termination_by l.length

theorem spansOf_l (l : List Int) (hl : l.length ≤ 4398046511104) : ∀ (d j : Nat) (acc : List S48), l.length ≤ j + 2 * d → j ≤ l.length + 1 → acc.length ≤ j → Ev (fun k => impl_spansOf.l0 k l acc (j : Int)) (acc ++ spansV (l.drop j)) := by
  intro d
  induction d with
  | zero =>
    intro j acc hj hj2 ha
    refine Ev.step (f := fun _ => some (acc ++ spansV (l.drop j))) (fun k => ?_) (Ev.now _)
    simp only [impl_spansOf.l0]
    rw [wr _ (by omega) (by omega), if_neg (by omega), List.drop_of_length_le (by omega)]
    simp [spansV]
  | succ d ih =>
    intro j acc hj hj2 ha
    have e1 : wrap64 ((j : Int) + 1) = ((j + 1 : Nat) : Int) := by rw [wr _ (by omega) (by omega)]; omega
    have e2 : wrap64 ((j : Int) + 2) = ((j + 2 : Nat) : Int) := by rw [wr _ (by omega) (by omega)]; omega
    by_cases h : j + 1 < l.length
    · refine Ev.step (f := fun k => impl_spansOf.l0 k l (acc ++ [(⟨l[j]'(by omega), l[j + 1]'(by omega)⟩ : S48)]) ((j + 2 : Nat) : Int)) (fun k => ?_) ?_
      · simp only [impl_spansOf.l0]
        rw [e1, if_pos (by omega), if_pos (by omega), if_pos (by omega), if_pos (by omega), if_pos (by omega), rd_at l j (by omega), rd_at l (j + 1) (by omega), e2]
      · have := ih (j + 2) (acc ++ [(⟨l[j]'(by omega), l[j + 1]'(by omega)⟩ : S48)]) (by omega) (by omega) (by simp; omega)
        rw [drop_at l j (by omega), drop_at l (j + 1) (by omega)]
        simpa only [spansV, List.append_assoc, List.singleton_append] using this
    · refine Ev.step (f := fun _ => some (acc ++ spansV (l.drop j))) (fun k => ?_) (Ev.now _)
      simp only [impl_spansOf.l0]
      rw [e1, if_neg (by omega)]
      have : spansV (l.drop j) = [] := by
        by_cases z : j < l.length
        · rw [drop_at l j z, List.drop_of_length_le (by omega)]
          rfl
        · rw [List.drop_of_length_le (by omega)]
          rfl
      rw [this, List.append_nil]

theorem spansOf_ev (l : List Int) (hl : l.length ≤ 4398046511104) : Ev (fun k => impl_spansOf.f k l) (spansV l) :=
  Ev.congr (fun k => by unfold impl_spansOf.f; rfl) (by simpa using spansOf_l l hl (l.length) 0 [] (by omega) (by omega) (by simp))

theorem rdS_at (l : List S48) (j : Nat) (h : j < l.length) : rd_T48 l (j : Int) = l[j] := by unfold rd_T48; simp [List.getD_eq_getElem?_getD, h]

theorem spansV_in (l : List Int) (hr : ∀ x ∈ l, 0 ≤ x ∧ x ≤ 1114111) : ∀ x ∈ spansV l, 0 ≤ x.f0 ∧ x.f0 ≤ 1114111 ∧ 0 ≤ x.f1 ∧ x.f1 ≤ 1114111 := by
  match l with
  | [] => intro x hx; cases hx
  | [_] => intro x hx; cases hx
  | a :: b :: r =>
    intro x hx
    simp only [spansV, List.mem_cons] at hx
    rcases hx with rfl | hx
    · have h1 := hr a (by simp)
      have h2 := hr b (by simp)
      exact ⟨h1.1, h1.2, h2.1, h2.2⟩
    · exact spansV_in r (fun y hy => hr y (by simp [hy])) x hx
termination_by l.length

def cnt : List Int → Int
  | a :: b :: r => b - a + 1 + cnt r
  | _ => 0
def cntS : List S48 → Int
  | x :: r => x.f1 - x.f0 + 1 + cntS r
  | [] => 0
theorem cntS_spans (l : List Int) : cntS (spansV l) = cnt l := by
  match l with
  | [] => rfl
  | [_] => rfl
  | a :: b :: r => simp only [spansV, cntS, cnt, cntS_spans r]
termination_by l.length

theorem specCount_l (l : List Int) (hl : l.length ≤ 24) (hr : ∀ x ∈ l, 0 ≤ x ∧ x ≤ 1114111) : ∀ (d j : Nat) (s : Int), j + 2 * d = l.length → 0 ≤ s + 2000000 * (j : Int) → s ≤ 2000000 * (j : Int) → Ev (fun k => spec_CountSet.l0 k l s (j : Int)) (s + cnt (l.drop j), true) := by
  intro d
  induction d with
  | zero =>
    intro j s hj h0 h1
    refine Ev.step (f := fun _ => some (s + cnt (l.drop j), true)) (fun k => ?_) (Ev.now _)
    simp only [spec_CountSet.l0]
    rw [if_neg (by omega), List.drop_of_length_le (by omega)]
    simp [cnt]
  | succ d ih =>
    intro j s hj h0 h1
    have ha : 0 ≤ l[j]'(by omega) ∧ l[j]'(by omega) ≤ 1114111 := hr _ (List.getElem_mem _)
    have hb : 0 ≤ l[j + 1]'(by omega) ∧ l[j + 1]'(by omega) ≤ 1114111 := hr _ (List.getElem_mem _)
    have e1 : wrap64 ((j : Int) + 1) = ((j + 1 : Nat) : Int) := by rw [wr _ (by omega) (by omega)]; omega
    have e2 : wrap64 ((j : Int) + 2) = ((j + 2 : Nat) : Int) := by rw [wr _ (by omega) (by omega)]; omega
    refine Ev.step (f := fun k => spec_CountSet.l0 k l (s + (l[j + 1]'(by omega) - l[j]'(by omega) + 1)) ((j + 2 : Nat) : Int)) (fun k => ?_) ?_
    · simp only [spec_CountSet.l0]
      rw [e1, if_pos (by omega), if_pos (by omega), if_pos (by omega), if_pos (by omega), rd_at l j (by omega), rd_at l (j + 1) (by omega), wr (l[j + 1]'(by omega) - l[j]'(by omega)) (by omega) (by omega), wr (l[j + 1]'(by omega) - l[j]'(by omega) + 1) (by omega) (by omega), wr (s + (l[j + 1]'(by omega) - l[j]'(by omega) + 1)) (by omega) (by omega), e2]
    · have := ih (j + 2) (s + (l[j + 1]'(by omega) - l[j]'(by omega) + 1)) (by omega) (by omega) (by omega)
      rw [drop_at l j (by omega), drop_at l (j + 1) (by omega), cnt]
      rw [Int.add_assoc s] at this
      exact this

theorem implCount_l (l : List S48) (hl : l.length ≤ 24) (hr : ∀ x ∈ l, 0 ≤ x.f0 ∧ x.f0 ≤ 1114111 ∧ 0 ≤ x.f1 ∧ x.f1 ≤ 1114111) : ∀ (d j : Nat) (s : Int), j + d = l.length → 0 ≤ s + 2000000 * (j : Int) → s ≤ 2000000 * (j : Int) → Ev (fun k => impl_CountSet.l0 k s l (l.length : Int) (j : Int)) (s + cntS (l.drop j), true) := by
  intro d
  induction d with
  | zero =>
    intro j s hj h0 h1
    refine Ev.step (f := fun _ => some (s + cntS (l.drop j), true)) (fun k => ?_) (Ev.now _)
    simp only [impl_CountSet.l0]
    rw [if_neg (by omega), List.drop_of_length_le (by omega)]
    simp [cntS]
  | succ d ih =>
    intro j s hj h0 h1
    have ha := hr (l[j]'(by omega)) (List.getElem_mem _)
    have e1 : wrap64 ((j : Int) + 1) = ((j + 1 : Nat) : Int) := by rw [wr _ (by omega) (by omega)]; omega
    refine Ev.step (f := fun k => impl_CountSet.l0 k (s + ((l[j]'(by omega)).f1 - (l[j]'(by omega)).f0 + 1)) l (l.length : Int) ((j + 1 : Nat) : Int)) (fun k => ?_) ?_
    · simp only [impl_CountSet.l0]
      rw [if_pos (by omega), if_pos (by omega), if_pos (by omega), rdS_at l j (by omega), wr ((l[j]'(by omega)).f1 - (l[j]'(by omega)).f0) (by omega) (by omega), wr ((l[j]'(by omega)).f1 - (l[j]'(by omega)).f0 + 1) (by omega) (by omega), wr (s + ((l[j]'(by omega)).f1 - (l[j]'(by omega)).f0 + 1)) (by omega) (by omega), e1]
    · have := ih (j + 1) (s + ((l[j]'(by omega)).f1 - (l[j]'(by omega)).f0 + 1)) (by omega) (by omega) (by omega)
      rw [List.drop_eq_getElem_cons (by omega), cntS]
      rw [Int.add_assoc s] at this
      exact this

theorem specCount_ev (l : List Int) (hl : l.length ≤ 17592186044416) : Ev (fun k => spec_CountSet.f k l) (if GoodS l = true then (cnt l, true) else (0, false)) := by
  unfold spec_CountSet.f
  refine Ev.bind (specSet_ev l hl) ?_
  cases hg : GoodS l with
  | false => exact Ev.congr (fun k => by rw [if_neg (by simp)]) (by simpa using Ev.now (0, false))
  | true =>
    have h := hg
    unfold GoodS at h
    rw [Bool.and_eq_true, decide_eq_true_eq] at h
    have := specCount_l l h.2 (good_all l 0 (by omega) h.1) (l.length / 2) 0 0 (by have := good_even l 0 h.1; omega) (by omega) (by omega)
    refine Ev.congr (fun k => by rw [if_pos rfl]) ?_
    simpa using this

theorem implCount_ev (l : List Int) (hl : l.length ≤ 17592186044416) : Ev (fun k => impl_CountSet.f k l) (if GoodS l = true then (cnt l, true) else (0, false)) := by
  unfold impl_CountSet.f
  refine Ev.bind (implSet_ev l hl) ?_
  cases hg : GoodS l with
  | false => exact Ev.congr (fun k => by rw [if_neg (by simp)]) (by simpa using Ev.now (0, false))
  | true =>
    have h := hg
    unfold GoodS at h
    rw [Bool.and_eq_true, decide_eq_true_eq] at h
    refine Ev.congr (fun k => by rw [if_pos rfl]) (Ev.bind (spansOf_ev l (by omega)) ?_)
    have h2 := spansV_length l
    have := implCount_l (spansV l) (by omega) (spansV_in l (good_all l 0 (by omega) h.1)) (spansV l).length 0 0 (by omega) (by omega) (by omega)
    rw [List.drop_zero, cntS_spans] at this
    simpa using this

/-- Is a number in a set? -/
def memV (r : Int) : List Int → Bool
  | a :: b :: t => inB a b r || memV r t
  | _ => false

theorem specIn_l (l : List Int) (r : Int) (hl : l.length ≤ 4398046511104) : ∀ (d j : Nat), j + 2 * d = l.length → Ev (fun k => spec_l4In.l0 k l r (j : Int)) (memV r (l.drop j)) := by
  intro d
  induction d with
  | zero =>
    intro j hj
    refine Ev.step (f := fun _ => some (memV r (l.drop j))) (fun k => ?_) (Ev.now _)
    simp only [spec_l4In.l0]
    rw [if_neg (by omega), List.drop_of_length_le (by omega)]
    rfl
  | succ d ih =>
    intro j hj
    have e1 : wrap64 ((j : Int) + 1) = ((j + 1 : Nat) : Int) := by rw [wr _ (by omega) (by omega)]; omega
    have e2 : wrap64 ((j : Int) + 2) = ((j + 2 : Nat) : Int) := by rw [wr _ (by omega) (by omega)]; omega
    have hd : l.drop j = l[j]'(by omega) :: l[j + 1]'(by omega) :: l.drop (j + 2) := by rw [drop_at l j (by omega), drop_at l (j + 1) (by omega)]
    rw [hd, memV]
    cases h : inB (l[j]'(by omega)) (l[j + 1]'(by omega)) r with
    | true =>
      refine Ev.step (f := fun _ => some true) (fun k => ?_) (by simpa using Ev.now true)
      simp only [spec_l4In.l0]
      rw [e1, if_pos (by omega), if_pos (by omega), if_pos (by omega), if_pos (by omega), rd_at l j (by omega), rd_at l (j + 1) (by omega), in_s, h]
      simp
    | false =>
      refine Ev.step (f := fun k => spec_l4In.l0 k l r ((j + 2 : Nat) : Int)) (fun k => ?_) (by simpa using ih (j + 2) (by omega))
      simp only [spec_l4In.l0]
      rw [e1, if_pos (by omega), if_pos (by omega), if_pos (by omega), if_pos (by omega), rd_at l j (by omega), rd_at l (j + 1) (by omega), in_s, h, e2]
      simp

theorem specIn_ev (l : List Int) (r : Int) (hl : l.length ≤ 4398046511104) (he : l.length % 2 = 0) : Ev (fun k => spec_l4In.f k l r) (memV r l) :=
  Ev.congr (fun k => by unfold spec_l4In.f; rfl) (by simpa using specIn_l l r hl (l.length / 2) 0 (by omega))

theorem inSpans_mem (r : Int) (l : List Int) : inSpans r (spansV l) = memV r l := by
  match l with
  | [] => rfl
  | [_] => rfl
  | a :: b :: t =>
    have ih := inSpans_mem r t
    unfold inSpans at ih ⊢
    simp only [spansV, memV, List.any_cons, ih]
    rfl
termination_by l.length

theorem implIn_ev (l : List Int) (r : Int) (hl : l.length ≤ 4398046511104) : Ev (fun k => impl_inSet.f k l r) (memV r l) := by
  unfold impl_inSet.f
  refine Ev.bind (spansOf_ev l hl) ?_
  rw [inSpans_mem]
  exact Ev.now _

/-- InSet. -/
def inR (l : List Int) (r : Int) : Bool × Bool := if GoodS l = true then if isR r = true then (memV r l, true) else (false, false) else (false, false)
theorem specInSet_ev (l : List Int) (r : Int) (hl : l.length ≤ 4398046511104) : Ev (fun k => spec_InSet.f k l r) (inR l r) := by
  unfold spec_InSet.f inR
  refine Ev.bind (specSet_ev l (by omega)) ?_
  cases hg : GoodS l with
  | false => exact Ev.congr (fun k => by rw [if_neg (by simp)]) (by simpa using Ev.now (false, false))
  | true =>
    obtain ⟨h1, h2, h3⟩ := goodS_facts l hg
    rw [gr_s]
    refine Ev.congr (fun k => by rw [if_pos rfl, Option.bind_some]) ?_
    cases isR r with
    | false => exact Ev.congr (fun k => by rw [if_neg (by simp)]) (by simpa using Ev.now (false, false))
    | true => exact Ev.congr (fun k => by rw [if_pos rfl]) (Ev.bind (specIn_ev l r hl h2) (by simpa using Ev.now (memV r l, true)))
theorem implInSet_ev (l : List Int) (r : Int) (hl : l.length ≤ 4398046511104) : Ev (fun k => impl_InSet.f k l r) (inR l r) := by
  unfold impl_InSet.f inR
  refine Ev.bind (implSet_ev l (by omega)) ?_
  cases hg : GoodS l with
  | false => exact Ev.congr (fun k => by rw [if_neg (by simp)]) (by simpa using Ev.now (false, false))
  | true =>
    rw [gr_i]
    refine Ev.congr (fun k => by rw [if_pos rfl, Option.bind_some]) ?_
    cases isR r with
    | false => exact Ev.congr (fun k => by rw [if_neg (by simp)]) (by simpa using Ev.now (false, false))
    | true => exact Ev.congr (fun k => by rw [if_pos rfl]) (Ev.bind (implIn_ev l r hl) (by simpa using Ev.now (memV r l, true)))

theorem good_cons {a x y : Int} {r : List Int} : Good a (x :: y :: r) = true ↔ a ≤ x ∧ x ≤ y ∧ y ≤ 1114111 ∧ Good (y + 2) r = true := by
  simp only [Good, Bool.and_eq_true, decide_eq_true_eq]
  exact ⟨fun h => ⟨h.1.1.1, h.1.1.2, h.1.2, h.2⟩, fun h => ⟨⟨⟨h.1, h.2.1⟩, h.2.2.1⟩, h.2.2.2⟩⟩

theorem good_mem_ge (l : List Int) : ∀ a r, Good a l = true → memV r l = true → a ≤ r ∧ r ≤ 1114111 := by
  match l with
  | [] => intro a r _ h; simp [memV] at h
  | [_] => intro a r _ h; simp [memV] at h
  | x :: y :: t =>
    intro a r h hm
    obtain ⟨h1, h2, h3, h4⟩ := good_cons.1 h
    simp only [memV, Bool.or_eq_true, inB_iff] at hm
    rcases hm with hm | hm
    · omega
    · have := good_mem_ge t _ r h4 hm
      omega
termination_by l.length

theorem inB_false {a b n : Int} (h : ¬ (a ≤ n ∧ n ≤ b)) : inB a b n = false := by
  cases e : inB a b n with
  | false => rfl
  | true => exact absurd ((inB_iff _ _ _).1 e) h

theorem mem_low (l : List Int) (a r : Int) (h : Good a l = true) (hr : r < a) : memV r l = false := by
  cases e : memV r l with
  | false => rfl
  | true =>
    have := good_mem_ge l a r h e
    omega

/-- Two sets with the same runes are one. -/
theorem good_ext (l : List Int) : ∀ (m : List Int) (a b : Int), Good a l = true → Good b m = true → (∀ n, memV n l = memV n m) → l = m := by
  match l with
  | [] =>
    intro m a b h1 h2 h
    match m with
    | [] => rfl
    | [_] => simp [Good] at h2
    | x :: y :: r =>
      obtain ⟨g1, g2, g3, g4⟩ := good_cons.1 h2
      have := h x
      rw [memV, (inB_iff x y x).2 ⟨by omega, g2⟩] at this
      simp [memV] at this
  | [_] => intro m a b h1; simp [Good] at h1
  | x :: y :: r =>
    intro m a b h1 h2 h
    obtain ⟨g1, g2, g3, g4⟩ := good_cons.1 h1
    match m with
    | [] =>
      have := h x
      rw [memV, (inB_iff x y x).2 ⟨by omega, g2⟩] at this
      simp [memV] at this
    | [_] => simp [Good] at h2
    | x' :: y' :: r' =>
      obtain ⟨f1, f2, f3, f4⟩ := good_cons.1 h2
      have e1 : x = x' := by
        have p := h x
        have q := h x'
        rw [memV, (inB_iff x y x).2 ⟨by omega, g2⟩, Bool.true_or] at p
        rw [show memV x' (x' :: y' :: r') = (inB x' y' x' || memV x' r') from rfl, (inB_iff x' y' x').2 ⟨by omega, f2⟩, Bool.true_or] at q
        have p1 := good_mem_ge _ x' x (good_cons.2 ⟨by omega, f2, f3, f4⟩) p.symm
        have q1 := good_mem_ge _ x x' (good_cons.2 ⟨by omega, g2, g3, g4⟩) q
        omega
      subst e1
      have e2 : y = y' := by
        have side : ∀ (u v : Int) (s s' : List Int), x ≤ u → Good (u + 2) s = true → (∀ n, memV n (x :: u :: s) = memV n (x :: v :: s')) → ¬ u < v := by
          intro u v s s' hu hg hh hlt
          have p := hh (u + 1)
          rw [show memV (u + 1) (x :: u :: s) = (inB x u (u + 1) || memV (u + 1) s) from rfl, show memV (u + 1) (x :: v :: s') = (inB x v (u + 1) || memV (u + 1) s') from rfl, inB_false (by omega), mem_low s _ _ hg (by omega), (inB_iff x v (u + 1)).2 ⟨by omega, by omega⟩] at p
          simp at p
        have p := side y y' r r' g2 g4 h
        have q := side y' y r' r f2 f4 (fun n => (h n).symm)
        omega
      subst e2
      have e3 : r = r' := by
        refine good_ext r r' (y + 2) (y + 2) g4 f4 fun n => ?_
        by_cases hn : n < y + 2
        · rw [mem_low r _ _ g4 hn, mem_low r' _ _ f4 hn]
        · have := h n
          rw [show memV n (x :: y :: r) = (inB x y n || memV n r) from rfl, show memV n (x :: y :: r') = (inB x y n || memV n r') from rfl, inB_false (by omega), Bool.false_or, Bool.false_or] at this
          exact this
      rw [e3]
termination_by l.length
/-- A span added to a set. -/
def addV (a b : Int) : List Int → List Int
  | x :: y :: r => if y < a - 1 then x :: y :: addV a b r else if x > b + 1 then a :: b :: x :: y :: r else addV (if a < x then a else x) (if b > y then b else y) r
  | _ => [a, b]
termination_by l => l.length

theorem add_cons (a b x y : Int) (r : List Int) : addV a b (x :: y :: r) = if y < a - 1 then x :: y :: addV a b r else if x > b + 1 then a :: b :: x :: y :: r else addV (if a < x then a else x) (if b > y then b else y) r := by rw [addV]
theorem add_nil (a b : Int) : addV a b [] = [a, b] := by rw [addV]; intro x y r h; cases h

theorem add_good (l : List Int) : ∀ (c a b : Int), Good c l = true → c ≤ a → a ≤ b → b ≤ 1114111 → Good c (addV a b l) = true := by
  match l with
  | [] => intro c a b _ h1 h2 h3; rw [add_nil]; exact good_cons.2 ⟨h1, h2, h3, rfl⟩
  | [_] => intro c a b h; simp [Good] at h
  | x :: y :: r =>
    intro c a b h h1 h2 h3
    obtain ⟨g1, g2, g3, g4⟩ := good_cons.1 h
    rw [add_cons]
    by_cases c1 : y < a - 1
    · rw [if_pos c1]
      exact good_cons.2 ⟨g1, g2, g3, add_good r (y + 2) a b g4 (by omega) h2 h3⟩
    · rw [if_neg c1]
      by_cases c2 : x > b + 1
      · rw [if_pos c2]
        exact good_cons.2 ⟨h1, h2, h3, good_cons.2 ⟨by omega, g2, g3, g4⟩⟩
      · rw [if_neg c2]
        exact add_good r c _ _ (good_mono r c (y + 2) (by omega) g4) (by split <;> omega) (by split <;> split <;> omega) (by split <;> omega)
termination_by l.length

theorem add_mem (l : List Int) (n : Int) : ∀ (c a b : Int), Good c l = true → a ≤ b → memV n (addV a b l) = (inB a b n || memV n l) := by
  match l with
  | [] => intro c a b _ _; rw [add_nil]; rfl
  | [_] => intro c a b h; simp [Good] at h
  | x :: y :: r =>
    intro c a b h h2
    obtain ⟨g1, g2, g3, g4⟩ := good_cons.1 h
    rw [add_cons]
    by_cases c1 : y < a - 1
    · rw [if_pos c1, memV, add_mem r n (y + 2) a b g4 h2, memV, ← Bool.or_assoc, ← Bool.or_assoc, Bool.or_comm (inB x y n)]
    · rw [if_neg c1]
      by_cases c2 : x > b + 1
      · rw [if_pos c2, memV]
      · rw [if_neg c2, add_mem r n (y + 2) _ _ g4 (by split <;> split <;> omega), memV, ← Bool.or_assoc]
        congr 1
        rw [Bool.eq_iff_iff, Bool.or_eq_true, inB_iff, inB_iff, inB_iff]
        split <;> split <;> omega
termination_by l.length

theorem add_length (l : List Int) : ∀ (a b : Int), (addV a b l).length ≤ l.length + 2 := by
  match l with
  | [] => intro a b; rw [add_nil]; simp
  | [_] => intro a b; rw [addV]; simp; intro x y r h; simp at h
  | x :: y :: r =>
    intro a b
    rw [add_cons]
    by_cases c1 : y < a - 1
    · rw [if_pos c1]
      have := add_length r a b
      simp only [List.length_cons]; omega
    · rw [if_neg c1]
      by_cases c2 : x > b + 1
      · rw [if_pos c2]; simp
      · rw [if_neg c2]
        have := add_length r (if a < x then a else x) (if b > y then b else y)
        simp only [List.length_cons]; omega
termination_by l.length

theorem own_ev (l : List Int) (hl : l.length ≤ 4398046511104) : spec_l1Own.f l = some l := by
  unfold spec_l1Own.f
  simp only [Option.bind_some]
  rw [if_pos (by simp; omega)]
  simp

theorem least_ev (a b : Int) : spec_l1Least.f a b = some (if a < b then a else b) := by unfold spec_l1Least.f; split <;> rfl
theorem most_ev (a b : Int) : spec_l1Most.f a b = some (if a > b then a else b) := by unfold spec_l1Most.f; split <;> rfl

theorem add_l1 (a b : Int) (acc : List Int) (hl : acc.length ≤ 4398046511104) (p : Nat) (hp : p ≤ acc.length) (he : p % 2 = 0) (hlt : ∀ i, i < p → acc.getD i 0 < a) (hge : p < acc.length → a ≤ acc.getD p 0) : ∀ (d j : Nat), j + 2 * d = p → Ev (fun k => spec_l4Add.l1 k a b acc (j : Int)) (acc.take p ++ [a, b] ++ acc.drop p) := by
  intro d
  induction d with
  | zero =>
    intro j hj
    have ej : j = p := by omega
    subst ej
    have t1 : (acc.take j).length ≤ 4398046511104 := by rw [List.length_take]; omega
    have t2 : (acc.take j).length ≤ acc.length := by rw [List.length_take]; omega
    have t3 : (acc.take j ++ [a, b]).length ≤ acc.length + 2 := by rw [List.length_append]; simp only [List.length_cons, List.length_nil]; omega
    have t4 : (acc.drop j).length ≤ acc.length := by rw [List.length_drop]; omega
    refine Ev.step (f := fun _ => some (acc.take j ++ [a, b] ++ acc.drop j)) (fun k => ?_) (Ev.now _)
    simp only [spec_l4Add.l1]
    have body : ((spec_l1Own.f (acc.take ((j : Int)).toNat)).bind fun t147 => ((some (([a, b] : List Int) : List Int)).bind fun y150 => (if t147.length + y150.length < 17592186044416 then ((some (t147 ++ y150 : List Int)).bind fun y153 => ((some (acc.drop ((j : Int)).toNat : List Int)).bind fun y156 => (if y153.length + y156.length < 17592186044416 then (some (y153 ++ y156)) else (none)))) else (none)))) = some (acc.take j ++ [a, b] ++ acc.drop j) := by
      rw [Int.toNat_natCast, own_ev _ t1]
      simp only [Option.bind_some]
      rw [if_pos (by simp only [List.length_cons, List.length_nil]; omega), if_pos (by omega)]
    by_cases h : j < acc.length
    · have := hge h
      rw [getD_at acc j h] at this
      rw [if_pos (by omega), if_pos (by omega), rd_at acc j h, if_neg (by omega), if_pos (by omega)]
      exact body
    · rw [if_neg (by omega), if_pos (by omega), if_pos (by omega)]
      exact body
  | succ d ih =>
    intro j hj
    have e2 : wrap64 ((j : Int) + 2) = ((j + 2 : Nat) : Int) := by rw [wr _ (by omega) (by omega)]; omega
    refine Ev.step (f := fun k => spec_l4Add.l1 k a b acc ((j + 2 : Nat) : Int)) (fun k => ?_) (ih (j + 2) (by omega))
    have := hlt j (by omega)
    rw [getD_at acc j (by omega)] at this
    simp only [spec_l4Add.l1]
    rw [if_pos (by omega), if_pos (by omega), rd_at acc j (by omega), if_pos this, e2]

theorem add_l02 (l : List Int) (hl : l.length ≤ 4398046511104) (a b : Int) (h0 : 0 ≤ a) (hab : a ≤ b) (hb : b ≤ 1114111) (r : List Int) : ∀ (d j : Nat) (acc : List Int), j + 2 * d = l.length → acc.length ≤ j → Good (b + 2) (l.drop j) = true → Ev (fun k => spec_l4Add.l1 k a b (acc ++ l.drop j) ((0 : Nat) : Int)) r → Ev (fun k => spec_l4Add.l0 k l a b acc (j : Int)) r := by
  intro d
  induction d with
  | zero =>
    intro j acc hj ha hg hr
    rw [List.drop_of_length_le (by omega), List.append_nil] at hr
    refine Ev.step (f := fun k => spec_l4Add.l1 k a b acc ((0 : Nat) : Int)) (fun k => ?_) hr
    simp only [spec_l4Add.l0]
    rw [if_neg (by omega)]
    rfl
  | succ d ih =>
    intro j acc hj ha hg hr
    have hd : l.drop j = l[j]'(by omega) :: l[j + 1]'(by omega) :: l.drop (j + 2) := by rw [drop_at l j (by omega), drop_at l (j + 1) (by omega)]
    rw [hd] at hg hr
    obtain ⟨g1, g2, g3, g4⟩ := good_cons.1 hg
    have e1 : wrap64 ((j : Int) + 1) = ((j + 1 : Nat) : Int) := by rw [wr _ (by omega) (by omega)]; omega
    have e2 : wrap64 ((j : Int) + 2) = ((j + 2 : Nat) : Int) := by rw [wr _ (by omega) (by omega)]; omega
    have ih' := ih (j + 2) (acc ++ [l[j]'(by omega), l[j + 1]'(by omega)]) (by omega) (by simp; omega) (good_mono _ _ _ (by omega) g4) (by simpa using hr)
    refine Ev.step (f := fun k => spec_l4Add.j1 k l a b acc (j : Int) true) (fun k => ?_) (Ev.step (f := fun k => spec_l4Add.l0 k l a b (acc ++ [l[j]'(by omega), l[j + 1]'(by omega)]) ((j + 2 : Nat) : Int)) (fun k => ?_) ih')
    · simp only [spec_l4Add.l0]
      rw [e1, if_pos (by omega), if_pos (by omega), if_pos (by omega), rd_at l (j + 1) (by omega), rd_at l j (by omega), wr (a - 1) (by omega) (by omega), wr (b + 1) (by omega) (by omega), if_neg (by omega), if_pos (by omega), show decide (l[j]'(by omega) > b + 1) = true from decide_eq_true (by omega)]
    · simp only [spec_l4Add.j1]
      rw [e1, e2, if_pos trivial, if_pos (by omega), if_pos (by omega), if_pos (by omega), if_pos (by omega), rd_at l (j + 1) (by omega), rd_at l j (by omega)]
      simp only [Option.bind_some]
      rw [if_pos (by simp only [List.length_cons, List.length_nil]; omega)]

theorem getD_mem (l : List Int) (i : Nat) (h : i < l.length) : l.getD i 0 ∈ l := by rw [getD_at l i h]; exact List.getElem_mem _

theorem getD_app1 (l m : List Int) (i : Nat) (h : i < l.length) : (l ++ m).getD i 0 = l.getD i 0 := by simp [List.getD_eq_getElem?_getD, List.getElem?_append_left h]
theorem getD_app2 (l m : List Int) : (l ++ m).getD l.length 0 = m.getD 0 0 := by simp [List.getD_eq_getElem?_getD, List.getElem?_append_right]

theorem add_l01 (l : List Int) (hl : l.length ≤ 2199023255552) : ∀ (d j : Nat) (acc : List Int) (a b c : Int), j + 2 * d = l.length → acc.length ≤ j → acc.length % 2 = 0 → 0 ≤ a → a ≤ b → b ≤ 1114111 → 0 ≤ c → Good c (l.drop j) = true → (∀ z ∈ acc, z < a ∧ z < c) → Ev (fun k => spec_l4Add.l0 k l a b acc (j : Int)) (acc ++ addV a b (l.drop j)) := by
  intro d
  induction d with
  | zero =>
    intro j acc a b c hj ha he h0 h1 h2 hc hg hz
    rw [List.drop_of_length_le (by omega), add_nil]
    refine Ev.step (f := fun k => spec_l4Add.l1 k a b acc ((0 : Nat) : Int)) (fun k => ?_) ?_
    · simp only [spec_l4Add.l0]
      rw [if_neg (by omega)]
      rfl
    · have := add_l1 a b acc (by omega) acc.length (by omega) he (fun i hi => (hz _ (getD_mem acc i hi)).1) (fun h => absurd h (by omega)) (acc.length / 2) 0 (by omega)
      simpa using this
  | succ d ih =>
    intro j acc a b c hj ha he h0 h1 h2 hc hg hz
    have hd : l.drop j = l[j]'(by omega) :: l[j + 1]'(by omega) :: l.drop (j + 2) := by rw [drop_at l j (by omega), drop_at l (j + 1) (by omega)]
    have e1 : wrap64 ((j : Int) + 1) = ((j + 1 : Nat) : Int) := by rw [wr _ (by omega) (by omega)]; omega
    have e2 : wrap64 ((j : Int) + 2) = ((j + 2 : Nat) : Int) := by rw [wr _ (by omega) (by omega)]; omega
    have hg' := hg
    rw [hd] at hg'
    obtain ⟨g1, g2, g3, g4⟩ := good_cons.1 hg'
    by_cases c1 : l[j + 1]'(by omega) < a - 1
    · have ih' := ih (j + 2) (acc ++ [l[j]'(by omega), l[j + 1]'(by omega)]) a b (l[j + 1]'(by omega) + 2) (by omega) (by simp; omega) (by simp; omega) h0 h1 h2 (by omega) g4 (by
        intro z hz'
        simp only [List.mem_append, List.mem_cons, List.not_mem_nil, or_false] at hz'
        rcases hz' with hz' | rfl | rfl
        · have := hz z hz'; omega
        · omega
        · omega)
      rw [hd, add_cons, if_pos c1]
      refine Ev.step (f := fun k => spec_l4Add.j1 k l a b acc (j : Int) true) (fun k => ?_) (Ev.step (f := fun k => spec_l4Add.l0 k l a b (acc ++ [l[j]'(by omega), l[j + 1]'(by omega)]) ((j + 2 : Nat) : Int)) (fun k => ?_) (by simpa using ih'))
      · simp only [spec_l4Add.l0]
        rw [e1, if_pos (by omega), if_pos (by omega), if_pos (by omega), rd_at l (j + 1) (by omega), wr (a - 1) (by omega) (by omega), if_pos c1]
      · simp only [spec_l4Add.j1]
        rw [e1, e2, if_pos trivial, if_pos (by omega), if_pos (by omega), if_pos (by omega), if_pos (by omega), rd_at l (j + 1) (by omega), rd_at l j (by omega)]
        simp only [Option.bind_some]
        rw [if_pos (by simp only [List.length_cons, List.length_nil]; omega)]
    · by_cases c2 : l[j]'(by omega) > b + 1
      · have hg2 : Good (b + 2) (l.drop j) = true := by rw [hd]; exact good_cons.2 ⟨by omega, g2, g3, g4⟩
        rw [show addV a b (l.drop j) = a :: b :: l.drop j from by rw [hd, add_cons, if_neg c1, if_pos c2]]
        refine add_l02 l (by omega) a b h0 h1 h2 _ (d + 1) j acc (by omega) ha hg2 ?_
        have hq : (l.drop j).getD 0 0 = l[j]'(by omega) := by rw [hd]; rfl
        have := add_l1 a b (acc ++ l.drop j) (by simp; omega) acc.length (by simp) he (fun i hi => by rw [getD_app1 _ _ _ hi]; exact (hz _ (getD_mem acc i hi)).1) (fun _ => by rw [getD_app2, hq]; omega) (acc.length / 2) 0 (by omega)
        rw [List.take_left, List.drop_left] at this
        simpa using this
      · have ih' := ih (j + 2) acc (if a < l[j]'(by omega) then a else l[j]'(by omega)) (if b > l[j + 1]'(by omega) then b else l[j + 1]'(by omega)) c (by omega) (by omega) he (by split <;> omega) (by split <;> split <;> omega) (by split <;> omega) hc (good_mono _ _ _ (by omega) g4) (by
          intro z hz'
          have := hz z hz'
          refine ⟨?_, this.2⟩
          split <;> omega)
        rw [hd, add_cons, if_neg c1, if_neg c2]
        refine Ev.step (f := fun k => spec_l4Add.j1 k l a b acc (j : Int) false) (fun k => ?_) (Ev.step (f := fun k => spec_l4Add.l0 k l (if a < l[j]'(by omega) then a else l[j]'(by omega)) (if b > l[j + 1]'(by omega) then b else l[j + 1]'(by omega)) acc ((j + 2 : Nat) : Int)) (fun k => ?_) ih')
        · simp only [spec_l4Add.l0]
          rw [e1, if_pos (by omega), if_pos (by omega), if_pos (by omega), rd_at l (j + 1) (by omega), rd_at l j (by omega), wr (a - 1) (by omega) (by omega), wr (b + 1) (by omega) (by omega), if_neg c1, if_pos (by omega), show decide (l[j]'(by omega) > b + 1) = false from decide_eq_false c2]
        · simp only [spec_l4Add.j1]
          rw [e1, e2, if_neg (by simp), if_pos (by omega), if_pos (by omega), rd_at l j (by omega), least_ev]
          simp only [Option.bind_some]
          rw [if_pos (by omega), if_pos (by omega), rd_at l (j + 1) (by omega), most_ev]
          simp only [Option.bind_some]

theorem add_ev (l : List Int) (hl : l.length ≤ 2199023255552) (a b : Int) (hg : Good 0 l = true) (h0 : 0 ≤ a) (h1 : a ≤ b) (h2 : b ≤ 1114111) : Ev (fun k => spec_l4Add.f k l a b) (addV a b l) := by
  have he := good_even l 0 hg
  exact Ev.congr (fun k => by unfold spec_l4Add.f; rfl) (by simpa using add_l01 l hl (l.length / 2) 0 [] a b 0 (by omega) (by simp) rfl h0 h1 h2 (by omega) (by simpa using hg) (by simp))
/-- Sorted spans laid together. -/
def mrgV (a b : Int) : List S48 → List Int
  | x :: r => if x.f0 ≤ b + 1 then mrgV a (mx b x.f1) r else a :: b :: mrgV x.f0 x.f1 r
  | [] => [a, b]
def mrgA : List S48 → List Int
  | x :: r => mrgV x.f0 x.f1 r
  | [] => []
def anyS (n : Int) (l : List S48) : Bool := l.any fun x => inB x.f0 x.f1 n
def SpanOk (x : S48) : Prop := 0 ≤ x.f0 ∧ x.f0 ≤ x.f1 ∧ x.f1 ≤ 1114111

theorem mrg_good (l : List S48) : ∀ (c a b : Int), (∀ x ∈ l, SpanOk x) → (∀ x ∈ l, a ≤ x.f0) → l.Pairwise (fun a b => a.f0 ≤ b.f0) → c ≤ a → a ≤ b → b ≤ 1114111 → Good c (mrgV a b l) = true := by
  induction l with
  | nil => intro c a b _ _ _ h1 h2 h3; exact good_cons.2 ⟨h1, h2, h3, rfl⟩
  | cons x r ih =>
    intro c a b ho hs hp h1 h2 h3
    have ox := ho x (by simp)
    have sx := hs x (by simp)
    obtain ⟨p1, p2⟩ := List.pairwise_cons.1 hp
    unfold SpanOk at ox
    rw [mrgV]
    by_cases h : x.f0 ≤ b + 1
    · rw [if_pos h]
      exact ih c a _ (fun y hy => ho y (by simp [hy])) (fun y hy => hs y (by simp [hy])) p2 h1 (by unfold mx; split <;> omega) (by unfold mx; split <;> omega)
    · rw [if_neg h]
      exact good_cons.2 ⟨h1, h2, h3, ih _ _ _ (fun y hy => ho y (by simp [hy])) p1 p2 (by omega) (by omega) (by omega)⟩

theorem mrg_mem (l : List S48) (n : Int) : ∀ (a b : Int), (∀ x ∈ l, SpanOk x) → (∀ x ∈ l, a ≤ x.f0) → l.Pairwise (fun a b => a.f0 ≤ b.f0) → a ≤ b → memV n (mrgV a b l) = (inB a b n || anyS n l) := by
  induction l with
  | nil => intro a b _ _ _ _; rfl
  | cons x r ih =>
    intro a b ho hs hp h2
    have ox := ho x (by simp)
    have sx := hs x (by simp)
    obtain ⟨p1, p2⟩ := List.pairwise_cons.1 hp
    unfold SpanOk at ox
    rw [mrgV]
    have e : anyS n (x :: r) = (inB x.f0 x.f1 n || anyS n r) := by simp [anyS]
    by_cases h : x.f0 ≤ b + 1
    · rw [if_pos h, ih a _ (fun y hy => ho y (by simp [hy])) (fun y hy => hs y (by simp [hy])) p2 (by unfold mx; split <;> omega), e, ← Bool.or_assoc]
      congr 1
      rw [Bool.eq_iff_iff, Bool.or_eq_true, inB_iff, inB_iff, inB_iff]
      unfold mx
      split <;> omega
    · rw [if_neg h, memV, ih _ _ (fun y hy => ho y (by simp [hy])) p1 p2 (by omega), e]

theorem mrg_length (l : List S48) : ∀ a b, (mrgV a b l).length ≤ 2 * l.length + 2 := by
  induction l with
  | nil => intro a b; simp [mrgV]
  | cons x r ih =>
    intro a b
    rw [mrgV]
    split
    · have := ih a (mx b x.f1); simp only [List.length_cons]; omega
    · have := ih x.f0 x.f1; simp only [List.length_cons]; omega

theorem rdSm_at (l : List S48) (j : Nat) (h : j < l.length) : rd_T48 l (j : Int) = l[j] := by unfold rd_T48; simp [List.getD_eq_getElem?_getD, h]

theorem implMrg_l (l : List S48) (hl : l.length ≤ 1099511627776) (ho : ∀ x ∈ l, SpanOk x) : ∀ (d j : Nat) (A : List Int) (a b : Int), j + d = l.length → A.length + 2 ≤ 2 * j → 0 ≤ b → b ≤ 1114111 → Ev (fun k => impl_setOf.l0 k l (A ++ [a, b]) l (l.length : Int) (j : Int)) (A ++ mrgV a b (l.drop j), l) := by
  intro d
  induction d with
  | zero =>
    intro j A a b hj hA h0 h1
    refine Ev.step (f := fun _ => some (A ++ mrgV a b (l.drop j), l)) (fun k => ?_) (Ev.now _)
    simp only [impl_setOf.l0]
    rw [if_neg (by omega), List.drop_of_length_le (by omega)]
    rfl
  | succ d ih =>
    intro j A a b hj hA h0 h1
    have ox := ho (l[j]'(by omega)) (List.getElem_mem _)
    unfold SpanOk at ox
    have e1 : wrap64 ((j : Int) + 1) = ((j + 1 : Nat) : Int) := by rw [wr _ (by omega) (by omega)]; omega
    have el : (A ++ [a, b]).length = A.length + 2 := by simp
    have e2 : wrap64 (((A ++ [a, b]).length : Int) - 1) = ((A.length + 1 : Nat) : Int) := by rw [el, wr _ (by omega) (by omega)]; omega
    have e3 : rd (A ++ [a, b]) ((A.length + 1 : Nat) : Int) = b := by
      rw [rd_nat]
      simp [List.getD_eq_getElem?_getD, List.getElem?_append_right]
    have e4 : (A ++ [a, b]).set (A.length + 1) (mx b (l[j]'(by omega)).f1) = A ++ [a, mx b (l[j]'(by omega)).f1] := by
      rw [List.set_append_right _ _ (by omega), show A.length + 1 - A.length = 1 from by omega]
      rfl
    rw [List.drop_eq_getElem_cons (show j < l.length by omega), mrgV]
    by_cases h : (l[j]'(by omega)).f0 ≤ b + 1
    · rw [if_pos h]
      refine Ev.step (f := fun k => impl_setOf.l0 k l (A ++ [a, mx b (l[j]'(by omega)).f1]) l (l.length : Int) ((j + 1 : Nat) : Int)) (fun k => ?_) (ih (j + 1) A a (mx b (l[j]'(by omega)).f1) (by omega) (by omega) (by unfold mx; split <;> omega) (by unfold mx; split <;> omega))
      simp only [impl_setOf.l0]
      rw [if_pos (by omega), if_pos (by omega), if_pos (by omega), e2, if_pos (by omega), if_pos (by omega), if_pos (by rw [el]; omega), e3, rdSm_at l j (by omega), wr (b + 1) (by omega) (by omega), if_pos h, Int.toNat_natCast, e4, e1]
    · rw [if_neg h]
      have ih' := ih (j + 1) (A ++ [a, b]) (l[j]'(by omega)).f0 (l[j]'(by omega)).f1 (by omega) (by omega) (by omega) (by omega)
      refine Ev.step (f := fun k => impl_setOf.l0 k l (A ++ [a, b] ++ [(l[j]'(by omega)).f0, (l[j]'(by omega)).f1]) l (l.length : Int) ((j + 1 : Nat) : Int)) (fun k => ?_) (by simpa using ih')
      simp only [impl_setOf.l0]
      rw [if_pos (by omega), if_pos (by omega), if_pos (by omega), e2, if_pos (by omega), if_pos (by omega), if_pos (by rw [el]; omega), e3, rdSm_at l j (by omega), wr (b + 1) (by omega) (by omega), if_neg h, e1]
      simp only [Option.bind_some]
      rw [if_pos (by rw [el]; simp only [List.length_cons, List.length_nil]; omega)]

theorem implMrg_ev (l : List S48) (hl : l.length ≤ 1099511627776) (ho : ∀ x ∈ l, SpanOk x) : Ev (fun k => impl_setOf.l0 k l [] l (l.length : Int) 0) (mrgA l, l) := by
  match l, hl, ho with
  | [], _, _ =>
    refine Ev.step (f := fun _ => some (mrgA [], [])) (fun k => ?_) (Ev.now _)
    simp only [impl_setOf.l0]
    rw [if_neg (by simp)]
    rfl
  | x :: r, hl, ho =>
    have ox := ho x (by simp)
    unfold SpanOk at ox
    have := implMrg_l (x :: r) hl ho r.length 1 [] x.f0 x.f1 (by simp; omega) (by simp) (by omega) (by omega)
    refine Ev.step (f := fun k => impl_setOf.l0 k (x :: r) [x.f0, x.f1] (x :: r) ((x :: r).length : Int) ((1 : Nat) : Int)) (fun k => ?_) (by simpa [mrgA] using this)
    simp only [impl_setOf.l0]
    rw [if_pos (by simp only [List.length_cons]; omega), if_pos (by omega), if_pos (by simp only [List.length_cons]; omega), wr _ (by simp) (by simp), if_neg (by simp), wr _ (by omega) (by omega), show rd_T48 (x :: r) 0 = x from rfl]
    simp only [Option.bind_some]
    rw [if_pos (by simp)]
    rfl

/-- What setOf makes of spans: a set, with the spans' runes. -/
theorem implSetOf_ev (l : List S48) (hl : l.length ≤ 1099511627776) (ho : ∀ x ∈ l, SpanOk x) : ∃ s q, Ev (fun k => impl_setOf.f k l) (s, q) ∧ Good 0 s = true ∧ (∀ n, memV n s = anyS n l) ∧ s.length ≤ 2 * l.length + 2 := by
  have hb : ∀ x ∈ l, 0 ≤ x.f0 ∧ x.f0 ≤ 1099511627776 := fun x hx => by have := ho x hx; unfold SpanOk at this; omega
  obtain ⟨hp, hs⟩ := sortV_spec l hb
  have hlen := hp.length_eq
  have ho2 : ∀ x ∈ sortV l hb, SpanOk x := fun x hx => ho x (hp.mem_iff.1 hx)
  have he := implMrg_ev (sortV l hb) (by omega) ho2
  have ha : ∀ n, anyS n (sortV l hb) = anyS n l := fun n => by
    unfold anyS
    rw [Bool.eq_iff_iff, List.any_eq_true, List.any_eq_true]
    exact ⟨fun ⟨x, hx, h⟩ => ⟨x, hp.mem_iff.1 hx, h⟩, fun ⟨x, hx, h⟩ => ⟨x, hp.mem_iff.2 hx, h⟩⟩
  refine ⟨mrgA (sortV l hb), sortV l hb, ?_, ?_, ?_, ?_⟩
  · refine Ev.congr (f := fun k => impl_setOf.l0 k (sortV l hb) [] (sortV l hb) ((sortV l hb).length : Int) 0) (fun k => ?_) he
    unfold impl_setOf.f impl_span.f
    rw [dif_pos ⟨rfl, by omega, hb⟩, hlen]
    rfl
  · generalize sortV l hb = m at hs ho2
    match m with
    | [] => rfl
    | x :: r =>
      have ox := ho2 x (by simp)
      unfold SpanOk at ox
      obtain ⟨p1, p2⟩ := List.pairwise_cons.1 hs
      exact mrg_good r 0 _ _ (fun y hy => ho2 y (by simp [hy])) p1 p2 (by omega) (by omega) (by omega)
  · intro n
    rw [← ha n]
    generalize sortV l hb = m at hs ho2
    match m with
    | [] => rfl
    | x :: r =>
      have ox := ho2 x (by simp)
      unfold SpanOk at ox
      obtain ⟨p1, p2⟩ := List.pairwise_cons.1 hs
      rw [mrgA, mrg_mem r n _ _ (fun y hy => ho2 y (by simp [hy])) p1 p2 (by omega)]
      simp [anyS]
  · rw [← hlen]
    generalize sortV l hb = m
    match m with
    | [] => simp [mrgA]
    | x :: r =>
      have := mrg_length r x.f0 x.f1
      rw [mrgA]
      simp only [List.length_cons]; omega
/-- What lies between the spans. -/
def notV : Int → List Int → List Int
  | from_, a :: b :: r => (if a > from_ then [from_, a - 1] else []) ++ notV (b + 1) r
  | from_, _ => if from_ ≤ 1114111 then [from_, 1114111] else []
def notVS : Int → List S48 → List Int
  | from_, x :: r => (if from_ < x.f0 then [from_, x.f0 - 1] else []) ++ notVS (x.f1 + 1) r
  | from_, [] => if from_ ≤ 1114111 then [from_, 1114111] else []
theorem notVS_spans (l : List Int) : ∀ a, notVS a (spansV l) = notV a l := by
  match l with
  | [] => intro a; rfl
  | [_] => intro a; rfl
  | x :: y :: r => intro a; simp only [spansV, notVS, notV, notVS_spans r, gt_iff_lt]
termination_by l.length
theorem notV_length (l : List Int) : ∀ a, (notV a l).length ≤ l.length + 2 := by
  match l with
  | [] => intro a; simp only [notV]; split <;> simp
  | [_] => intro a; simp only [notV]; split <;> simp
  | x :: y :: r =>
    intro a
    have := notV_length r (y + 1)
    simp only [notV, List.length_append, List.length_cons]
    split <;> simp <;> omega
termination_by l.length

theorem specNot_l (l : List Int) (hl : l.length ≤ 4398046511104) (hr : ∀ x ∈ l, 0 ≤ x ∧ x ≤ 1114111) : ∀ (d j : Nat) (acc : List Int) (fr : Int), j + 2 * d = l.length → acc.length ≤ j → 0 ≤ fr → fr ≤ 1114112 → Ev (fun k => spec_l4Not.l0 k l acc fr (j : Int)) (acc ++ notV fr (l.drop j)) := by
  intro d
  induction d with
  | zero =>
    intro j acc fr hj ha h0 h1
    refine Ev.step (f := fun _ => some (acc ++ notV fr (l.drop j))) (fun k => ?_) (Ev.now _)
    simp only [spec_l4Not.l0]
    rw [if_neg (by omega), List.drop_of_length_le (by omega)]
    by_cases h : fr ≤ 1114111
    · rw [if_pos h]
      simp only [Option.bind_some]
      rw [if_pos (by simp; omega)]
      simp [notV, h]
    · rw [if_neg h]
      simp [notV, h]
  | succ d ih =>
    intro j acc fr hj ha h0 h1
    have hb : 0 ≤ l[j + 1]'(by omega) ∧ l[j + 1]'(by omega) ≤ 1114111 := hr _ (List.getElem_mem _)
    have hc : 0 ≤ l[j]'(by omega) ∧ l[j]'(by omega) ≤ 1114111 := hr _ (List.getElem_mem _)
    have e1 : wrap64 ((j : Int) + 1) = ((j + 1 : Nat) : Int) := by rw [wr _ (by omega) (by omega)]; omega
    have e2 : wrap64 ((j : Int) + 2) = ((j + 2 : Nat) : Int) := by rw [wr _ (by omega) (by omega)]; omega
    have hd : l.drop j = l[j]'(by omega) :: l[j + 1]'(by omega) :: l.drop (j + 2) := by rw [drop_at l j (by omega), drop_at l (j + 1) (by omega)]
    rw [hd]
    by_cases h : l[j]'(by omega) > fr
    · refine Ev.step (f := fun k => spec_l4Not.l0 k l (acc ++ [fr, l[j]'(by omega) - 1]) (l[j + 1]'(by omega) + 1) ((j + 2 : Nat) : Int)) (fun k => ?_) ?_
      · simp only [spec_l4Not.l0]
        rw [e1, if_pos (by omega), if_pos (by omega), rd_at l j (by omega), if_pos h]
        simp only [Option.bind_some]
        rw [if_pos (by simp; omega), if_pos (by omega), if_pos (by omega), rd_at l (j + 1) (by omega), wr (l[j]'(by omega) - 1) (by omega) (by omega), wr (l[j + 1]'(by omega) + 1) (by omega) (by omega), e2]
      · have := ih (j + 2) (acc ++ [fr, l[j]'(by omega) - 1]) (l[j + 1]'(by omega) + 1) (by omega) (by simp; omega) (by omega) (by omega)
        rw [List.append_assoc] at this
        rw [notV, if_pos h]
        exact this
    · refine Ev.step (f := fun k => spec_l4Not.l0 k l acc (l[j + 1]'(by omega) + 1) ((j + 2 : Nat) : Int)) (fun k => ?_) ?_
      · simp only [spec_l4Not.l0]
        rw [e1, if_pos (by omega), if_pos (by omega), rd_at l j (by omega), if_neg h, if_pos (by omega), if_pos (by omega), rd_at l (j + 1) (by omega), wr (l[j + 1]'(by omega) + 1) (by omega) (by omega), e2]
      · have := ih (j + 2) acc (l[j + 1]'(by omega) + 1) (by omega) (by omega) (by omega) (by omega)
        rw [notV, if_neg h]
        exact this

theorem specNot_ev (l : List Int) (hl : l.length ≤ 4398046511104) (he : l.length % 2 = 0) (hr : ∀ x ∈ l, 0 ≤ x ∧ x ≤ 1114111) : Ev (fun k => spec_l4Not.f k l) (notV 0 l) :=
  Ev.congr (fun k => by unfold spec_l4Not.f; rfl) (by simpa using specNot_l l hl hr (l.length / 2) 0 [] 0 (by omega) (by simp) (by omega) (by omega))

theorem implNot_l (l : List S48) (hl : l.length ≤ 4398046511104) (hr : ∀ x ∈ l, 0 ≤ x.f0 ∧ x.f0 ≤ 1114111 ∧ 0 ≤ x.f1 ∧ x.f1 ≤ 1114111) : ∀ (d j : Nat) (acc : List Int) (fr : Int), j + d = l.length → acc.length ≤ 2 * j → 0 ≤ fr → fr ≤ 1114112 → Ev (fun k => impl_notSet.l0 k acc fr l (l.length : Int) (j : Int)) (acc ++ notVS fr (l.drop j)) := by
  intro d
  induction d with
  | zero =>
    intro j acc fr hj ha h0 h1
    refine Ev.step (f := fun _ => some (acc ++ notVS fr (l.drop j))) (fun k => ?_) (Ev.now _)
    simp only [impl_notSet.l0]
    rw [if_neg (by omega), List.drop_of_length_le (by omega)]
    by_cases h : fr ≤ 1114111
    · rw [if_pos h]
      simp only [Option.bind_some]
      rw [if_pos (by simp; omega)]
      simp [notVS, h]
    · rw [if_neg h]
      simp [notVS, h]
  | succ d ih =>
    intro j acc fr hj ha h0 h1
    have hb := hr (l[j]'(by omega)) (List.getElem_mem _)
    have e1 : wrap64 ((j : Int) + 1) = ((j + 1 : Nat) : Int) := by rw [wr _ (by omega) (by omega)]; omega
    rw [List.drop_eq_getElem_cons (show j < l.length by omega)]
    by_cases h : fr < (l[j]'(by omega)).f0
    · refine Ev.step (f := fun k => impl_notSet.l0 k (acc ++ [fr, (l[j]'(by omega)).f0 - 1]) ((l[j]'(by omega)).f1 + 1) l (l.length : Int) ((j + 1 : Nat) : Int)) (fun k => ?_) ?_
      · simp only [impl_notSet.l0]
        rw [if_pos (by omega), if_pos (by omega), if_pos (by omega), rdS_at l j (by omega), if_pos h]
        simp only [Option.bind_some]
        rw [if_pos (by simp; omega), wr ((l[j]'(by omega)).f0 - 1) (by omega) (by omega), wr ((l[j]'(by omega)).f1 + 1) (by omega) (by omega), e1]
      · have := ih (j + 1) (acc ++ [fr, (l[j]'(by omega)).f0 - 1]) ((l[j]'(by omega)).f1 + 1) (by omega) (by simp; omega) (by omega) (by omega)
        rw [List.append_assoc] at this
        rw [notVS, if_pos h]
        exact this
    · refine Ev.step (f := fun k => impl_notSet.l0 k acc ((l[j]'(by omega)).f1 + 1) l (l.length : Int) ((j + 1 : Nat) : Int)) (fun k => ?_) ?_
      · simp only [impl_notSet.l0]
        rw [if_pos (by omega), if_pos (by omega), if_pos (by omega), rdS_at l j (by omega), if_neg h, wr ((l[j]'(by omega)).f1 + 1) (by omega) (by omega), e1]
      · have := ih (j + 1) acc ((l[j]'(by omega)).f1 + 1) (by omega) (by omega) (by omega) (by omega)
        rw [notVS, if_neg h]
        exact this

theorem implNot_ev (l : List Int) (hl : l.length ≤ 4398046511104) (hr : ∀ x ∈ l, 0 ≤ x ∧ x ≤ 1114111) : Ev (fun k => impl_notSet.f k l) (notV 0 l) := by
  unfold impl_notSet.f
  have h2 := spansV_length l
  refine Ev.bind (spansOf_ev l hl) ?_
  rw [← notVS_spans]
  simpa using implNot_l (spansV l) (by omega) (spansV_in l hr) (spansV l).length 0 [] 0 (by omega) (by simp) (by omega) (by omega)

/-- A set as it is told: itself, if it is good. -/
def made (l : List Int) : List Int × Bool := if GoodS l = true then (l, true) else ([], false)
theorem specMade_ev (l : List Int) (hl : l.length ≤ 17592186044416) : Ev (fun k => spec_l4Made.f k l) (made l) := by
  unfold spec_l4Made.f made
  refine Ev.bind (specSet_ev l hl) ?_
  cases GoodS l with
  | false => exact Ev.congr (fun k => by rw [if_neg (by simp)]) (by simpa using Ev.now (([] : List Int), false))
  | true => exact Ev.congr (fun k => by rw [if_pos rfl]) (by simpa using Ev.now (l, true))
theorem implMade_ev (l : List Int) (hl : l.length ≤ 17592186044416) : Ev (fun k => impl_goodSet.f k l) (made l) := by
  unfold impl_goodSet.f made
  refine Ev.bind (implSet_ev l hl) ?_
  cases GoodS l with
  | false => exact Ev.congr (fun k => by rw [if_neg (by simp)]) (by simpa using Ev.now (([] : List Int), false))
  | true => exact Ev.congr (fun k => by rw [if_pos rfl]) (by simpa using Ev.now (l, true))
theorem made_length (l : List Int) : (made l).1.length ≤ 24 := by
  unfold made
  cases h : GoodS l with
  | false => simp
  | true =>
    unfold GoodS at h
    rw [Bool.and_eq_true, decide_eq_true_eq] at h
    simpa using h.2

/-- NotSet. -/
def notR (l : List Int) : List Int × Bool := if GoodS l = true then made (notV 0 l) else ([], false)
theorem notR_length (l : List Int) : (notR l).1.length ≤ 24 := by
  unfold notR
  split
  · exact made_length _
  · simp
theorem specNotSet_ev (l : List Int) (hl : l.length ≤ 17592186044416) : Ev (fun k => spec_NotSet.f k l) (notR l) := by
  unfold spec_NotSet.f notR
  refine Ev.bind (specSet_ev l hl) ?_
  cases hg : GoodS l with
  | false => exact Ev.congr (fun k => by rw [if_neg (by simp)]) (by simpa using Ev.now (([] : List Int), false))
  | true =>
    obtain ⟨h1, h2, h3⟩ := goodS_facts l hg
    have h4 := notV_length l 0
    refine Ev.congr (fun k => by rw [if_pos rfl]) (Ev.bind (specNot_ev l (by omega) h2 h3) (Ev.bind (specMade_ev (notV 0 l) (by omega)) ?_))
    simpa using Ev.now (made (notV 0 l))
theorem implNotSet_ev (l : List Int) (hl : l.length ≤ 17592186044416) : Ev (fun k => impl_NotSet.f k l) (notR l) := by
  unfold impl_NotSet.f notR
  refine Ev.bind (implSet_ev l hl) ?_
  cases hg : GoodS l with
  | false => exact Ev.congr (fun k => by rw [if_neg (by simp)]) (by simpa using Ev.now (([] : List Int), false))
  | true =>
    obtain ⟨h1, h2, h3⟩ := goodS_facts l hg
    have h4 := notV_length l 0
    refine Ev.congr (fun k => by rw [if_pos rfl]) (Ev.bind (implNot_ev l (by omega) h3) (Ev.bind (implMade_ev (notV 0 l) (by omega)) ?_))
    simpa using Ev.now (made (notV 0 l))

theorem spansV_mem (n : Int) (l : List Int) : anyS n (spansV l) = memV n l := by
  match l with
  | [] => rfl
  | [_] => rfl
  | a :: b :: t =>
    have ih := spansV_mem n t
    unfold anyS at ih ⊢
    simp only [spansV, memV, List.any_cons, ih]
termination_by l.length

theorem spansV_ok (l : List Int) : ∀ c, 0 ≤ c → Good c l = true → ∀ x ∈ spansV l, SpanOk x := by
  match l with
  | [] => intro c _ _ x hx; cases hx
  | [_] => intro c _ h; simp [Good] at h
  | a :: b :: t =>
    intro c hc h x hx
    obtain ⟨g1, g2, g3, g4⟩ := good_cons.1 h
    simp only [spansV, List.mem_cons] at hx
    rcases hx with rfl | hx
    · exact ⟨by show 0 ≤ a; omega, g2, g3⟩
    · exact spansV_ok t (b + 2) (by omega) g4 x hx
termination_by l.length

theorem anyS_append (n : Int) (l m : List S48) : anyS n (l ++ m) = (anyS n l || anyS n m) := by simp [anyS]

theorem goodS_good (l : List Int) (h : GoodS l = true) : Good 0 l = true := by
  unfold GoodS at h
  rw [Bool.and_eq_true] at h
  exact h.1
def addTo : List Int → List Int → List Int
  | acc, x :: y :: r => addTo (addV x y acc) r
  | acc, _ => acc
termination_by _ l => l.length
theorem addTo_cons (acc : List Int) (x y : Int) (r : List Int) : addTo acc (x :: y :: r) = addTo (addV x y acc) r := by rw [addTo]
theorem addTo_nil (acc : List Int) : addTo acc [] = acc := by rw [addTo]; intro x y r h; cases h

theorem addTo_ok (m : List Int) : ∀ (acc : List Int) (c : Int), 0 ≤ c → Good 0 acc = true → Good c m = true → Good 0 (addTo acc m) = true ∧ (∀ n, memV n (addTo acc m) = (memV n acc || memV n m)) ∧ (addTo acc m).length ≤ acc.length + m.length := by
  match m with
  | [] => intro acc c _ h _; rw [addTo_nil]; exact ⟨h, fun n => by simp [memV], by simp⟩
  | [_] => intro acc c _ _ h; simp [Good] at h
  | x :: y :: r =>
    intro acc c hc h hm
    obtain ⟨g1, g2, g3, g4⟩ := good_cons.1 hm
    have h1 := add_length acc x y
    obtain ⟨i1, i2, i3⟩ := addTo_ok r (addV x y acc) (y + 2) (by omega) (add_good acc 0 x y h (by omega) g2 g3) g4
    rw [addTo_cons]
    refine ⟨i1, fun n => ?_, by simp only [List.length_cons]; omega⟩
    rw [i2, add_mem acc n 0 x y h g2, memV, Bool.or_comm (inB x y n), Bool.or_assoc]
termination_by m.length

theorem union_l (m : List Int) (hm : m.length ≤ 1099511627776) : ∀ (d j : Nat) (acc : List Int) (c : Int), j + 2 * d = m.length → acc.length ≤ 1099511627776 + j → 0 ≤ c → Good 0 acc = true → Good c (m.drop j) = true → Ev (fun k => spec_l4Union.l0 k m acc (j : Int)) (addTo acc (m.drop j)) := by
  intro d
  induction d with
  | zero =>
    intro j acc c hj ha hc hg hm
    rw [List.drop_of_length_le (by omega), addTo_nil]
    refine Ev.step (f := fun _ => some acc) (fun k => ?_) (Ev.now _)
    simp only [spec_l4Union.l0]
    rw [if_neg (by omega)]
  | succ d ih =>
    intro j acc c hj ha hc hg hm
    have hd : m.drop j = m[j]'(by omega) :: m[j + 1]'(by omega) :: m.drop (j + 2) := by rw [drop_at m j (by omega), drop_at m (j + 1) (by omega)]
    have e1 : wrap64 ((j : Int) + 1) = ((j + 1 : Nat) : Int) := by rw [wr _ (by omega) (by omega)]; omega
    have e2 : wrap64 ((j : Int) + 2) = ((j + 2 : Nat) : Int) := by rw [wr _ (by omega) (by omega)]; omega
    rw [hd] at hm
    obtain ⟨g1, g2, g3, g4⟩ := good_cons.1 hm
    have h1 := add_length acc (m[j]'(by omega)) (m[j + 1]'(by omega))
    rw [hd, addTo_cons]
    refine Ev.step (f := fun k => (spec_l4Add.f k acc (m[j]'(by omega)) (m[j + 1]'(by omega))).bind fun t => spec_l4Union.l0 k m t ((j + 2 : Nat) : Int)) (fun k => ?_) (Ev.bind (add_ev acc (by omega) (m[j]'(by omega)) (m[j + 1]'(by omega)) hg (by omega) g2 g3) (ih (j + 2) (addV (m[j]'(by omega)) (m[j + 1]'(by omega)) acc) (m[j + 1]'(by omega) + 2) (by omega) (by omega) (by omega) (add_good acc 0 _ _ hg (by omega) g2 g3) g4))
    simp only [spec_l4Union.l0]
    rw [e1, e2, if_pos (by omega), if_pos (by omega), if_pos (by omega), if_pos (by omega), rd_at m j (by omega), rd_at m (j + 1) (by omega)]

theorem union_ev (l m : List Int) (hl : l.length ≤ 1099511627776) (hm : m.length ≤ 1099511627776) (h1 : Good 0 l = true) (h2 : Good 0 m = true) : Ev (fun k => spec_l4Union.f k l m) (addTo l m) := by
  unfold spec_l4Union.f
  rw [own_ev l (by omega)]
  have he := good_even m 0 h2
  exact Ev.bind (Ev.now _) (by simpa using union_l m hm (m.length / 2) 0 l 0 (by omega) (by omega) (by omega) h1 (by simpa using h2))
/-- UnionSet. -/
def unionR (l m : List Int) : List Int × Bool := if (GoodS l && GoodS m) = true then made (addTo l m) else ([], false)
theorem unionR_length (l m : List Int) : (unionR l m).1.length ≤ 24 := by
  unfold unionR
  split
  · exact made_length _
  · simp

theorem unionR_spec (l m : List Int) (hl : l.length ≤ 17592186044416) (hm : m.length ≤ 17592186044416) : Ev (fun k => spec_UnionSet.f k l m) (unionR l m) := by
  have bad : Ev (fun k => spec_UnionSet.j0 k l m true) ([], false) := Ev.step (f := fun _ => some ([], false)) (fun k => by simp [spec_UnionSet.j0]) (Ev.now _)
  unfold spec_UnionSet.f unionR
  refine Ev.bind (specSet_ev l hl) ?_
  cases h1 : GoodS l with
  | false => exact Ev.congr (fun k => by rw [if_neg (by simp)]) (by simpa using bad)
  | true =>
    refine Ev.congr (fun k => by rw [if_pos rfl]) (Ev.bind (specSet_ev m hm) ?_)
    cases h2 : GoodS m with
    | false => exact bad
    | true =>
      obtain ⟨a1, a2, a3⟩ := goodS_facts l h1
      obtain ⟨b1, b2, b3⟩ := goodS_facts m h2
      obtain ⟨g1, g2, g3⟩ := addTo_ok m l 0 (by omega) (goodS_good l h1) (goodS_good m h2)
      refine Ev.step (fun k => by simp only [spec_UnionSet.j0]; rw [if_neg (by simp)]) ?_
      refine Ev.bind (union_ev l m (by omega) (by omega) (goodS_good l h1) (goodS_good m h2)) (Ev.bind (specMade_ev (addTo l m) (by omega)) ?_)
      simpa using Ev.now (made (addTo l m))

theorem unionR_impl (l m : List Int) (hl : l.length ≤ 17592186044416) (hm : m.length ≤ 17592186044416) : Ev (fun k => impl_UnionSet.f k l m) (unionR l m) := by
  have bad : Ev (fun k => impl_UnionSet.j0 k l m true) ([], false) := Ev.step (f := fun _ => some ([], false)) (fun k => by simp [impl_UnionSet.j0]) (Ev.now _)
  unfold impl_UnionSet.f unionR
  refine Ev.bind (implSet_ev l hl) ?_
  cases h1 : GoodS l with
  | false => exact Ev.congr (fun k => by rw [if_neg (by simp)]) (by simpa using bad)
  | true =>
    refine Ev.congr (fun k => by rw [if_pos rfl]) (Ev.bind (implSet_ev m hm) ?_)
    cases h2 : GoodS m with
    | false => exact bad
    | true =>
      obtain ⟨a1, a2, a3⟩ := goodS_facts l h1
      obtain ⟨b1, b2, b3⟩ := goodS_facts m h2
      have hl2 := goodS_good l h1
      have hm2 := goodS_good m h2
      obtain ⟨g1, g2, g3⟩ := addTo_ok m l 0 (by omega) hl2 hm2
      have s1 := spansV_length l
      have s2 := spansV_length m
      obtain ⟨s, q, e1, e2, e3, e4⟩ := implSetOf_ev (spansV l ++ spansV m) (by rw [List.length_append]; omega) (by
        intro x hx
        rcases List.mem_append.1 hx with hx | hx
        · exact spansV_ok l 0 (by omega) hl2 x hx
        · exact spansV_ok m 0 (by omega) hm2 x hx)
      have es : s = addTo l m := good_ext s _ 0 0 e2 g1 fun n => by rw [e3, g2, anyS_append, spansV_mem, spansV_mem]
      subst es
      refine Ev.step (fun k => by simp only [impl_UnionSet.j0]; rw [if_neg (by simp)]) ?_
      refine Ev.bind (spansOf_ev l (by omega)) (Ev.bind (spansOf_ev m (by omega)) ?_)
      refine Ev.congr (fun k => by rw [if_pos (by omega)]) (Ev.bind e1 (Ev.bind (implMade_ev (addTo l m) (by show (addTo l m).length ≤ _; omega)) ?_))
      simpa using Ev.now (made (addTo l m))
theorem notV_good (l : List Int) : ∀ fr, 0 ≤ fr → Good fr l = true → Good fr (notV fr l) = true := by
  match l with
  | [] =>
    intro fr h _
    simp only [notV]
    by_cases h1 : fr ≤ 1114111
    · rw [if_pos h1]; exact good_cons.2 ⟨by omega, h1, by omega, rfl⟩
    · rw [if_neg h1]; rfl
  | [_] => intro fr _ h; simp [Good] at h
  | x :: y :: r =>
    intro fr h0 h
    obtain ⟨g1, g2, g3, g4⟩ := good_cons.1 h
    have ih := notV_good r (y + 1) (by omega) (good_mono _ _ _ (by omega) g4)
    rw [notV]
    by_cases h1 : x > fr
    · rw [if_pos h1]
      exact good_cons.2 ⟨by omega, by omega, by omega, good_mono _ _ _ (by omega) ih⟩
    · rw [if_neg h1]
      exact good_mono _ _ _ (by omega) ih
termination_by l.length

theorem notV_mem (n : Int) (l : List Int) : ∀ fr, 0 ≤ fr → Good fr l = true → memV n (notV fr l) = (inB fr 1114111 n && !memV n l) := by
  match l with
  | [] =>
    intro fr h _
    simp only [notV]
    by_cases h1 : fr ≤ 1114111
    · rw [if_pos h1]; simp [memV]
    · rw [if_neg h1, inB_false (by omega)]; simp [memV]
  | [_] => intro fr _ h; simp [Good] at h
  | x :: y :: r =>
    intro fr h0 h
    obtain ⟨g1, g2, g3, g4⟩ := good_cons.1 h
    have ih := notV_mem n r (y + 1) (by omega) (good_mono _ _ _ (by omega) g4)
    have key : memV n (notV fr (x :: y :: r)) = (inB fr (x - 1) n || memV n (notV (y + 1) r)) := by
      rw [notV]
      by_cases h1 : x > fr
      · rw [if_pos h1]; rfl
      · rw [if_neg h1, inB_false (by omega)]; rfl
    rw [key, ih, memV]
    by_cases c1 : n < x
    · have hr : memV n r = false := mem_low r _ _ g4 (by omega)
      rw [hr, inB_false (a := y + 1) (by omega), inB_false (a := x) (by omega)]
      simp only [Bool.false_and, Bool.or_false, Bool.not_false, Bool.and_true]
      rw [Bool.eq_iff_iff, inB_iff, inB_iff]
      omega
    · by_cases c2 : n ≤ y
      · rw [inB_false (a := y + 1) (by omega), inB_false (a := fr) (b := x - 1) (by omega), (inB_iff x y n).2 ⟨by omega, c2⟩]
        simp
      · rw [inB_false (a := fr) (b := x - 1) (by omega), inB_false (a := x) (by omega), Bool.false_or, Bool.false_or]
        congr 1
        rw [Bool.eq_iff_iff, inB_iff, inB_iff]
        omega
termination_by l.length

/-- What two spans share. -/
def meet1 (x : S48) (y : S48) : S48 := ⟨mx x.f0 y.f0, mn x.f1 y.f1⟩
def meetL (x : S48) : List S48 → List S48
  | y :: r => (if mx x.f0 y.f0 ≤ mn x.f1 y.f1 then [meet1 x y] else []) ++ meetL x r
  | [] => []
def meetA (m : List S48) : List S48 → List S48
  | x :: r => meetL x m ++ meetA m r
  | [] => []
theorem meetL_length (x : S48) (m : List S48) : (meetL x m).length ≤ m.length := by
  induction m with
  | nil => simp [meetL]
  | cons y r ih =>
    rw [meetL, List.length_append, List.length_cons]
    split <;> simp <;> omega
theorem meetL_ok (x : S48) (m : List S48) (hx : SpanOk x) (hm : ∀ y ∈ m, SpanOk y) : (∀ z ∈ meetL x m, SpanOk z) ∧ ∀ n, anyS n (meetL x m) = (inB x.f0 x.f1 n && anyS n m) := by
  induction m with
  | nil => exact ⟨fun z hz => (by cases hz), fun n => by simp [meetL, anyS]⟩
  | cons y r ih =>
    obtain ⟨i1, i2⟩ := ih fun z hz => hm z (by simp [hz])
    have hy := hm y (by simp)
    unfold SpanOk at hx hy
    constructor
    · intro z hz
      rw [meetL] at hz
      rcases List.mem_append.1 hz with hz | hz
      · by_cases h : mx x.f0 y.f0 ≤ mn x.f1 y.f1
        · rw [if_pos h] at hz
          rw [List.mem_singleton.1 hz]
          refine ⟨?_, h, ?_⟩
          · show 0 ≤ mx x.f0 y.f0
            unfold mx; split <;> omega
          · show mn x.f1 y.f1 ≤ 1114111
            unfold mn; split <;> omega
        · rw [if_neg h] at hz; cases hz
      · exact i1 z hz
    · intro n
      have key : anyS n (y :: r) = (inB y.f0 y.f1 n || anyS n r) := by simp [anyS]
      have k2 : anyS n (if mx x.f0 y.f0 ≤ mn x.f1 y.f1 then [meet1 x y] else []) = (inB x.f0 x.f1 n && inB y.f0 y.f1 n) := by
        have e : inB (mx x.f0 y.f0) (mn x.f1 y.f1) n = (inB x.f0 x.f1 n && inB y.f0 y.f1 n) := by
          rw [Bool.eq_iff_iff, Bool.and_eq_true, inB_iff, inB_iff, inB_iff]
          unfold mx mn
          split <;> split <;> omega
        by_cases h : mx x.f0 y.f0 ≤ mn x.f1 y.f1
        · rw [if_pos h, ← e]; simp [anyS, meet1]
        · rw [if_neg h, ← e, inB_false (by omega)]; simp [anyS]
      rw [meetL, anyS_append, i2, key, k2, ← Bool.and_or_distrib_left]
theorem meetA_ok (m : List S48) (hm : ∀ y ∈ m, SpanOk y) (l : List S48) (hl : ∀ y ∈ l, SpanOk y) : (∀ z ∈ meetA m l, SpanOk z) ∧ (∀ n, anyS n (meetA m l) = (anyS n l && anyS n m)) ∧ (meetA m l).length ≤ l.length * m.length := by
  induction l with
  | nil => exact ⟨fun z hz => (by cases hz), fun n => by simp [meetA, anyS], by simp [meetA]⟩
  | cons x r ih =>
    obtain ⟨i1, i2, i3⟩ := ih fun z hz => hl z (by simp [hz])
    obtain ⟨k1, k2⟩ := meetL_ok x m (hl x (by simp)) hm
    have k3 := meetL_length x m
    refine ⟨?_, ?_, ?_⟩
    · intro z hz
      rw [meetA] at hz
      rcases List.mem_append.1 hz with hz | hz
      · exact k1 z hz
      · exact i1 z hz
    · intro n
      have key : anyS n (x :: r) = (inB x.f0 x.f1 n || anyS n r) := by simp [anyS]
      rw [meetA, anyS_append, k2, i2, key, ← Bool.and_or_distrib_right]
    · rw [meetA, List.length_append, List.length_cons, Nat.succ_mul]
      omega

theorem meet_l1 (l1 : List Int) (x22 : List S48) (x23 : Int) (i : Nat) (m : List S48) (x : S48) (hm : m.length ≤ 1000) (r : List Int × Bool) : ∀ (d j : Nat) (acc : List S48), j + d = m.length → acc.length ≤ 1000000 + j → Ev (fun k => impl_MeetSet.l0 k l1 (acc ++ meetL x (m.drop j)) x22 x23 (wrap64 ((i : Int) + 1))) r → Ev (fun k => impl_MeetSet.l1 k l1 acc x22 x23 (i : Int) m (m.length : Int) (j : Int) x.f0 x.f1) r := by
  intro d
  induction d with
  | zero =>
    intro j acc hj ha hr
    rw [List.drop_of_length_le (by omega), meetL, List.append_nil] at hr
    refine Ev.step (fun k => ?_) hr
    simp only [impl_MeetSet.l1]
    rw [if_neg (by omega)]
  | succ d ih =>
    intro j acc hj ha hr
    have e1 : wrap64 ((j : Int) + 1) = ((j + 1 : Nat) : Int) := by rw [wr _ (by omega) (by omega)]; omega
    rw [List.drop_eq_getElem_cons (show j < m.length by omega), meetL, ← List.append_assoc] at hr
    by_cases h : mx x.f0 (m[j]'(by omega)).f0 ≤ mn x.f1 (m[j]'(by omega)).f1
    · rw [if_pos h] at hr
      refine Ev.step (f := fun k => impl_MeetSet.l1 k l1 (acc ++ [meet1 x (m[j]'(by omega))]) x22 x23 (i : Int) m (m.length : Int) ((j + 1 : Nat) : Int) x.f0 x.f1) (fun k => ?_) (ih (j + 1) _ (by omega) (by simp; omega) hr)
      simp only [impl_MeetSet.l1]
      rw [if_pos (by omega), if_pos (by omega), if_pos (by omega), rdSm_at m j (by omega), if_pos h, if_pos (by omega), e1]
      rfl
    · rw [if_neg h, List.append_nil] at hr
      refine Ev.step (f := fun k => impl_MeetSet.l1 k l1 acc x22 x23 (i : Int) m (m.length : Int) ((j + 1 : Nat) : Int) x.f0 x.f1) (fun k => ?_) (ih (j + 1) acc (by omega) (by omega) hr)
      simp only [impl_MeetSet.l1]
      rw [if_pos (by omega), if_pos (by omega), if_pos (by omega), rdSm_at m j (by omega), if_neg h, e1]

theorem meet_l0 (l1 : List Int) (hl1 : l1.length ≤ 1000) (m : List S48) (hm : m.length ≤ 1000) (r : List Int × Bool) : ∀ (d j : Nat) (acc : List S48), j + d = m.length → acc.length ≤ 1000 * j → Ev (fun k => (impl_setOf.f k (acc ++ meetA (spansV l1) (m.drop j))).bind fun bt265 => ((impl_goodSet.f k bt265.1).bind fun bt269 => (some (bt269.1, bt269.2)))) r → Ev (fun k => impl_MeetSet.l0 k l1 acc m (m.length : Int) (j : Int)) r := by
  intro d
  induction d with
  | zero =>
    intro j acc hj ha hr
    rw [List.drop_of_length_le (by omega), meetA, List.append_nil] at hr
    refine Ev.step (fun k => ?_) hr
    simp only [impl_MeetSet.l0]
    rw [if_neg (by omega)]
  | succ d ih =>
    intro j acc hj ha hr
    have e1 : wrap64 ((j : Int) + 1) = ((j + 1 : Nat) : Int) := by rw [wr _ (by omega) (by omega)]; omega
    have s1 := spansV_length l1
    have s2 := meetL_length (m[j]'(by omega)) (spansV l1)
    rw [List.drop_eq_getElem_cons (show j < m.length by omega), meetA, ← List.append_assoc] at hr
    have ih' := ih (j + 1) (acc ++ meetL (m[j]'(by omega)) (spansV l1)) (by omega) (by rw [List.length_append]; omega) hr
    rw [← e1] at ih'
    refine Ev.step (f := fun k => (impl_spansOf.f k l1).bind fun t => impl_MeetSet.l1 k l1 acc m (m.length : Int) (j : Int) t (t.length : Int) ((0 : Nat) : Int) (m[j]'(by omega)).f0 (m[j]'(by omega)).f1) (fun k => ?_) (Ev.bind (spansOf_ev l1 (by omega)) (meet_l1 l1 m _ j (spansV l1) (m[j]'(by omega)) (by omega) r (spansV l1).length 0 acc (by omega) (by omega) (by simpa using ih')))
    simp only [impl_MeetSet.l0]
    rw [if_pos (by omega), if_pos (by omega), if_pos (by omega), rdSm_at m j (by omega)]
    rfl

/-- MeetSet. -/
def meetV (l m : List Int) : List Int := notV 0 (addTo (notV 0 l) (notV 0 m))
def meetR (l m : List Int) : List Int × Bool := if (GoodS l && GoodS m) = true then made (meetV l m) else ([], false)
theorem meetR_length (l m : List Int) : (meetR l m).1.length ≤ 24 := by
  unfold meetR
  split
  · exact made_length _
  · simp

theorem meetV_ok (l m : List Int) (hl : Good 0 l = true) (hm : Good 0 m = true) : Good 0 (meetV l m) = true ∧ (∀ n, memV n (meetV l m) = (memV n l && memV n m)) ∧ Good 0 (addTo (notV 0 l) (notV 0 m)) = true ∧ (addTo (notV 0 l) (notV 0 m)).length ≤ l.length + m.length + 4 ∧ (meetV l m).length ≤ l.length + m.length + 6 := by
  obtain ⟨g1, g2, g3⟩ := addTo_ok (notV 0 m) (notV 0 l) 0 (by omega) (notV_good l 0 (by omega) hl) (notV_good m 0 (by omega) hm)
  have n1 := notV_length l 0
  have n2 := notV_length m 0
  have n3 := notV_length (addTo (notV 0 l) (notV 0 m)) 0
  refine ⟨notV_good _ 0 (by omega) g1, fun n => ?_, g1, by omega, by unfold meetV; omega⟩
  unfold meetV
  rw [notV_mem n _ 0 (by omega) g1, g2, notV_mem n l 0 (by omega) hl, notV_mem n m 0 (by omega) hm]
  cases e : memV n l with
  | false => cases inB 0 1114111 n <;> simp
  | true =>
    have := good_mem_ge l 0 n hl e
    rw [(inB_iff 0 1114111 n).2 this]
    simp

theorem meetR_spec (l m : List Int) (hl : l.length ≤ 17592186044416) (hm : m.length ≤ 17592186044416) : Ev (fun k => spec_MeetSet.f k l m) (meetR l m) := by
  have bad : Ev (fun k => spec_MeetSet.j0 k l m true) ([], false) := Ev.step (f := fun _ => some ([], false)) (fun k => by simp [spec_MeetSet.j0]) (Ev.now _)
  unfold spec_MeetSet.f meetR
  refine Ev.bind (specSet_ev l hl) ?_
  cases h1 : GoodS l with
  | false => exact Ev.congr (fun k => by rw [if_neg (by simp)]) (by simpa using bad)
  | true =>
    refine Ev.congr (fun k => by rw [if_pos rfl]) (Ev.bind (specSet_ev m hm) ?_)
    cases h2 : GoodS m with
    | false => exact bad
    | true =>
      obtain ⟨a1, a2, a3⟩ := goodS_facts l h1
      obtain ⟨b1, b2, b3⟩ := goodS_facts m h2
      have hl2 := goodS_good l h1
      have hm2 := goodS_good m h2
      have n1 := notV_length l 0
      have n2 := notV_length m 0
      obtain ⟨g1, g2, g3, g4, g5⟩ := meetV_ok l m hl2 hm2
      refine Ev.step (fun k => by simp only [spec_MeetSet.j0]; rw [if_neg (by simp)]) ?_
      refine Ev.bind (specNot_ev l (by omega) a2 a3) (Ev.bind (specNot_ev m (by omega) b2 b3) (Ev.bind (union_ev _ _ (by omega) (by omega) (notV_good l 0 (by omega) hl2) (notV_good m 0 (by omega) hm2)) ?_))
      refine Ev.bind (specNot_ev (addTo (notV 0 l) (notV 0 m)) (by omega) (good_even _ 0 g3) (good_all _ 0 (by omega) g3)) (Ev.bind (specMade_ev (meetV l m) (by omega)) ?_)
      simpa using Ev.now (made (meetV l m))

theorem meetR_impl (l m : List Int) (hl : l.length ≤ 17592186044416) (hm : m.length ≤ 17592186044416) : Ev (fun k => impl_MeetSet.f k l m) (meetR l m) := by
  have bad : Ev (fun k => impl_MeetSet.j0 k l m true) ([], false) := Ev.step (f := fun _ => some ([], false)) (fun k => by simp [impl_MeetSet.j0]) (Ev.now _)
  unfold impl_MeetSet.f meetR
  refine Ev.bind (implSet_ev l hl) ?_
  cases h1 : GoodS l with
  | false => exact Ev.congr (fun k => by rw [if_neg (by simp)]) (by simpa using bad)
  | true =>
    refine Ev.congr (fun k => by rw [if_pos rfl]) (Ev.bind (implSet_ev m hm) ?_)
    cases h2 : GoodS m with
    | false => exact bad
    | true =>
      obtain ⟨a1, a2, a3⟩ := goodS_facts l h1
      obtain ⟨b1, b2, b3⟩ := goodS_facts m h2
      have hl2 := goodS_good l h1
      have hm2 := goodS_good m h2
      obtain ⟨g1, g2, g3, g4, g5⟩ := meetV_ok l m hl2 hm2
      have s1 := spansV_length l
      have s2 := spansV_length m
      obtain ⟨m1, m2, m3⟩ := meetA_ok (spansV m) (spansV_ok m 0 (by omega) hm2) (spansV l) (spansV_ok l 0 (by omega) hl2)
      have m4 : (spansV l).length * (spansV m).length ≤ 24 * 24 := Nat.mul_le_mul (by omega) (by omega)
      obtain ⟨s, q, e1, e2, e3, e4⟩ := implSetOf_ev (meetA (spansV m) (spansV l)) (by omega) m1
      have es : s = meetV l m := good_ext s _ 0 0 e2 g1 fun n => by rw [e3, g2, m2, spansV_mem, spansV_mem]
      subst es
      refine Ev.step (fun k => by simp only [impl_MeetSet.j0]; rw [if_neg (by simp)]) ?_
      refine Ev.bind (spansOf_ev l (by omega)) (meet_l0 m (by omega) (spansV l) (by omega) _ (spansV l).length 0 [] (by omega) (by simp) ?_)
      simp only [List.drop_zero, List.nil_append]
      refine Ev.bind e1 (Ev.bind (implMade_ev (meetV l m) (by show (meetV l m).length ≤ _; omega)) ?_)
      simpa using Ev.now (made (meetV l m))
theorem u64_range (x : Int) : 0 ≤ IntKind.u64.wrap x ∧ IntKind.u64.wrap x < 18446744073709551616 := by
  unfold IntKind.wrap
  simp [IntKind.signed, IntKind.bits]
  omega
theorem and255 (x : Int) (h0 : 0 ≤ x) (h1 : x < 18446744073709551616) : Go.bits .and .u64 x 255 = x % 256 := by
  have := bits_mask .u64 64 (by decide) (fun n g0 g1 => by unfold IntKind.wrap; simp [IntKind.signed, IntKind.bits]; omega) 8 (by decide) x h0 h1
  simpa using this
/-- A reader of drawn bytes: it tells a byte and goes on by one. -/
theorem next_ok (c : List Int) (hc : ∀ x ∈ c, 0 ≤ x ∧ x ≤ 255) (p s : Int) (h0 : 0 ≤ p) (h1 : p ≤ 1099511627776) (hl : c.length ≤ 1099511627776) : ∃ v s', spec_l1Cur_next.f c p s = some (v, p + 1, s') ∧ 0 ≤ v ∧ v ≤ 255 := by
  have wp : wrap64 (p + 1) = p + 1 := wr _ (by omega) (by omega)
  have low : ∀ y : Int, 0 ≤ wrap64 (Go.bits .and .u64 (IntKind.u64.wrap y / 1099511627776) 255) ∧ wrap64 (Go.bits .and .u64 (IntKind.u64.wrap y / 1099511627776) 255) ≤ 255 := by
    intro y
    have hy := u64_range y
    rw [and255 _ (by omega) (by omega), wr _ (by omega) (by omega)]
    omega
  unfold spec_l1Cur_next.f
  rw [wp]
  by_cases h : p < (c.length : Int)
  · obtain ⟨n, rfl⟩ := Int.eq_ofNat_of_zero_le h0
    have hn : n < c.length := by omega
    have hv := hc _ (List.getElem_mem hn)
    rw [if_pos h, if_pos h0, if_pos (by omega)]
    rw [show rd c (n : Int) = c[n] from rd_at c n hn, wr (c[n]) (by omega) (by omega)]
    exact ⟨c[n], _, rfl, hv.1, hv.2⟩
  · rw [if_neg h, if_neg (by omega)]
    exact ⟨_, _, rfl, (low _).1, (low _).2⟩
theorem pick_ok (c : List Int) (hc : ∀ x ∈ c, 0 ≤ x ∧ x ≤ 255) (hl : c.length ≤ 1099511627776) (p s n : Int) (h0 : 0 ≤ p) (h1 : p ≤ 1000000) (hn0 : 0 ≤ n) (hn : n ≤ 200) : ∃ v p' s', spec_l1Cur_pick.f c p s n = some (v, p', s') ∧ 0 ≤ v ∧ (v < n ∨ v = 0) ∧ 0 ≤ p' ∧ p' ≤ p + 1 := by
  unfold spec_l1Cur_pick.f
  by_cases h : n ≤ 1
  · exact ⟨0, p, s, by rw [if_pos h], by omega, Or.inr rfl, h0, by omega⟩
  · obtain ⟨v, s', e, v0, v1⟩ := next_ok c hc p s h0 (by omega) hl
    rw [if_neg h, e, Option.bind_some, if_neg (by omega), if_neg (by omega)]
    refine ⟨Int.tmod v n, p + 1, s', rfl, ?_, Or.inl ?_, by omega, by omega⟩
    · rw [Int.tmod_eq_emod_of_nonneg v0]; exact Int.emod_nonneg _ (by omega)
    · rw [Int.tmod_eq_emod_of_nonneg v0]; exact Int.emod_lt_of_pos _ (by omega)
theorem among_ok (c : List Int) (hc : ∀ x ∈ c, 0 ≤ x ∧ x ≤ 255) (hl : c.length ≤ 1099511627776) (p s : Int) (l : List Int) (h0 : 0 ≤ p) (h1 : p ≤ 1000000) (hn : 0 < l.length) (hn2 : l.length ≤ 200) : ∃ v p' s', spec_l1Cur_among.f c p s l = some (v, p', s') ∧ v ∈ l ∧ 0 ≤ p' ∧ p' ≤ p + 1 := by
  unfold spec_l1Cur_among.f
  obtain ⟨v, p', s', e, v0, v1, q0, q1⟩ := pick_ok c hc hl p s (l.length : Int) h0 h1 (by omega) (by omega)
  obtain ⟨n, rfl⟩ := Int.eq_ofNat_of_zero_le v0
  have hv : n < l.length := by omega
  rw [e, Option.bind_some, if_pos v0, if_pos (by show (n : Int) < _; omega)]
  exact ⟨l[n], p', s', by show some (rd l (n : Int), p', s') = _; rw [rd_at l n hv], List.getElem_mem hv, q0, q1⟩
theorem one_ok (c : List Int) (hc : ∀ x ∈ c, 0 ≤ x ∧ x ≤ 255) (hl : c.length ≤ 1099511627776) (p s n : Int) (h0 : 0 ≤ p) (h1 : p ≤ 1000000) (hn0 : 0 ≤ n) (hn : n ≤ 200) : ∃ b p' s', spec_l1Cur_one.f c p s n = some (b, p', s') ∧ 0 ≤ p' ∧ p' ≤ p + 1 := by
  unfold spec_l1Cur_one.f
  obtain ⟨v, p', s', e, _, _, q0, q1⟩ := pick_ok c hc hl p s n h0 h1 hn0 hn
  exact ⟨v == 0, p', s', by rw [e]; rfl, q0, q1⟩

theorem setJ_ok (c : List Int) (hc : ∀ x ∈ c, 0 ≤ x ∧ x ≤ 255) (hl : c.length ≤ 1099511627776) (a : List Int) (ha : a.length ≤ 100) (p s : Int) (h0 : 0 ≤ p) (h1 : p ≤ 900000) : ∃ r p' s', Ev (fun k => spec_l1Cur_set.j1 k a c p s) (r, p', s') ∧ r.length ≤ 100 ∧ 0 ≤ p' ∧ p' ≤ p + 2 := by
  by_cases hz : (a.length : Int) > 0
  · obtain ⟨b, p1, s1, e1, q0, q1⟩ := one_ok c hc hl p s 30 h0 (by omega) (by omega) (by omega)
    cases b with
    | false => exact ⟨a, p1, s1, Ev.step (f := fun _ => some (a, p1, s1)) (fun k => by simp only [spec_l1Cur_set.j1]; rw [if_pos hz, e1, Option.bind_some, if_neg (by simp)]) (Ev.now _), ha, q0, by omega⟩
    | true =>
      obtain ⟨v, p2, s2, e2, _, r0, r1⟩ := among_ok c hc hl p1 s1 [-1, 1114112, 64] q0 (by omega) (by simp) (by simp)
      exact ⟨a.set 0 v, p2, s2, Ev.step (f := fun _ => some (a.set 0 v, p2, s2)) (fun k => by simp only [spec_l1Cur_set.j1]; rw [if_pos hz, e1, Option.bind_some, if_pos rfl]; show (spec_l1Cur_among.f c p1 s1 [-1, 1114112, 64]).bind _ = _; rw [e2, Option.bind_some, if_pos hz]; rfl) (Ev.now _), by rw [List.length_set]; exact ha, r0, by omega⟩
  · exact ⟨a, p, s, Ev.step (f := fun _ => some (a, p, s)) (fun k => by simp only [spec_l1Cur_set.j1]; rw [if_neg hz]) (Ev.now _), ha, h0, by omega⟩

theorem setL_ok (c : List Int) (hc : ∀ x ∈ c, 0 ≤ x ∧ x ≤ 255) (hl : c.length ≤ 1099511627776) : ∀ (d : Nat) (a : List Int) (n p s : Int), n ≤ d → 0 ≤ n → n ≤ 10 → a.length + 2 * d ≤ 80 → Good 0 a = true → 0 ≤ p → p + 2 * d ≤ 800000 → ∃ r p' s', Ev (fun k => spec_l1Cur_set.l0 k a n c p s) (r, p', s') ∧ r.length ≤ 100 ∧ 0 ≤ p' ∧ p' ≤ p + 2 * d + 3 := by
  intro d
  induction d with
  | zero =>
    intro a n p s hn n0 n1 ha hg h0 h1
    obtain ⟨b, p1, s1, e1, q0, q1⟩ := one_ok c hc hl p s 12 h0 (by omega) (by omega) (by omega)
    cases b with
    | false =>
      obtain ⟨r, p2, s2, e2, r0, r1, r2⟩ := setJ_ok c hc hl a (by omega) p1 s1 q0 (by omega)
      exact ⟨r, p2, s2, Ev.step (fun k => by simp only [spec_l1Cur_set.l0]; rw [if_neg (by omega), e1, Option.bind_some, if_neg (by simp)]) e2, r0, r1, by omega⟩
    | true =>
      have hb := good_all a 0 (by omega) hg
      have hnl := notV_length a 0
      obtain ⟨r, p2, s2, e2, r0, r1, r2⟩ := setJ_ok c hc hl (notV 0 a) (by omega) p1 s1 q0 (by omega)
      exact ⟨r, p2, s2, Ev.step (fun k => by simp only [spec_l1Cur_set.l0]; rw [if_neg (by omega), e1, Option.bind_some, if_pos rfl]) (Ev.bind (specNot_ev a (by omega) (good_even a 0 hg) hb) e2), r0, r1, by omega⟩
  | succ d ih =>
    intro a n p s hn n0 n1 ha hg h0 h1
    by_cases hz : n > 0
    · obtain ⟨v, p1, s1, e1, m1, q0, q1⟩ := among_ok c hc hl p s [0, 48, 65, 70, 90, 97, 98, 110, 122, 200, 12354, 1114111] h0 (by omega) (by simp) (by simp)
      obtain ⟨u, p2, s2, e2, m2, r0, r1⟩ := among_ok c hc hl p1 s1 [0, 0, 1, 2, 9, 25, 300] q0 (by omega) (by simp) (by simp)
      have hv : 0 ≤ v ∧ v ≤ 1114111 := by
        simp only [List.mem_cons, List.not_mem_nil, or_false] at m1
        omega
      have hu : 0 ≤ u ∧ u ≤ 300 := by
        simp only [List.mem_cons, List.not_mem_nil, or_false] at m2
        omega
      have hw : wrap64 (v + u) = v + u := wr _ (by omega) (by omega)
      have ht : v ≤ (if (1114111 : Int) < v + u then 1114111 else v + u) ∧ (if (1114111 : Int) < v + u then 1114111 else v + u) ≤ 1114111 := by split <;> omega
      have hlen := add_length a v (if (1114111 : Int) < v + u then 1114111 else v + u)
      obtain ⟨r, p3, s3, e3, t0, t1, t2⟩ := ih (addV v (if (1114111 : Int) < v + u then 1114111 else v + u) a) (n - 1) p2 s2 (by omega) (by omega) (by omega) (by omega) (add_good a 0 _ _ hg hv.1 ht.1 ht.2) r0 (by omega)
      refine ⟨r, p3, s3, Ev.step (f := fun k => (spec_l4Add.f k a v (if (1114111 : Int) < v + u then 1114111 else v + u)).bind fun t => spec_l1Cur_set.l0 k t (n - 1) c p2 s2) (fun k => ?_) (Ev.bind (add_ev a (by omega) v _ hg hv.1 ht.1 ht.2) e3), t0, t1, by omega⟩
      simp only [spec_l1Cur_set.l0]
      rw [if_pos hz]
      show (spec_l1Cur_among.f c p s [0, 48, 65, 70, 90, 97, 98, 110, 122, 200, 12354, 1114111]).bind _ = _
      rw [e1, Option.bind_some]
      show (spec_l1Cur_among.f c p1 s1 [0, 0, 1, 2, 9, 25, 300]).bind _ = _
      rw [e2, Option.bind_some]
      show (spec_l1Least.f 1114111 (wrap64 (v + u))).bind _ = _
      rw [hw, least_ev, Option.bind_some, wr (n - 1) (by omega) (by omega)]
    · obtain ⟨r, p', s', e, r0, r1, r2⟩ := ih a n p s (by omega) n0 n1 (by omega) hg h0 (by omega)
      exact ⟨r, p', s', e, r0, r1, by omega⟩
theorem set_ok (c : List Int) (hc : ∀ x ∈ c, 0 ≤ x ∧ x ≤ 255) (hl : c.length ≤ 1099511627776) (p s : Int) (h0 : 0 ≤ p) (h1 : p ≤ 700000) : ∃ r p' s', Ev (fun k => spec_l1Cur_set.f k c p s) (r, p', s') ∧ r.length ≤ 100 ∧ 0 ≤ p' ∧ p' ≤ p + 100 := by
  obtain ⟨v, p1, s1, e1, v0, v1, q0, q1⟩ := pick_ok c hc hl p s 4 h0 (by omega) (by omega) (by omega)
  obtain ⟨r, p2, s2, e2, r0, r1, r2⟩ := setL_ok c hc hl 10 [] v p1 s1 (by omega) v0 (by omega) (by simp) rfl q0 (by omega)
  exact ⟨r, p2, s2, Ev.congr (fun k => by unfold spec_l1Cur_set.f; rw [e1, Option.bind_some]) e2, r0, r1, by omega⟩

theorem drawL_ok (c : List Int) (hc : ∀ x ∈ c, 0 ≤ x ∧ x ≤ 255) (hl : c.length ≤ 1099511627776) : ∀ (d : Nat) (a : List Int) (i p s : Int), i + d = 20 → 0 ≤ i → (a.length : Int) ≤ 2 * i → 0 ≤ p → p ≤ 600000 + 2 * i → ∃ r, Ev (fun k => spec_DrawGoodSet.l0 k a i c p s) r ∧ r.length ≤ 100 := by
  intro d
  induction d with
  | zero =>
    intro a i p s hi i0 ha h0 h1
    obtain ⟨v, p1, s1, e1, v0, v1, q0, q1⟩ := pick_ok c hc hl p s 2 h0 (by omega) (by omega) (by omega)
    exact ⟨a, Ev.step (f := fun _ => some a) (fun k => by simp only [spec_DrawGoodSet.l0]; rw [e1, Option.bind_some]; show (if i < wrap64 (12 + v) then _ else some a) = _; rw [wr (12 + v) (by omega) (by omega), if_neg (by omega)]) (Ev.now _), by omega⟩
  | succ d ih =>
    intro a i p s hi i0 ha h0 h1
    obtain ⟨v, p1, s1, e1, v0, v1, q0, q1⟩ := pick_ok c hc hl p s 2 h0 (by omega) (by omega) (by omega)
    by_cases hz : i < 12 + v
    · obtain ⟨u, p2, s2, e2, u0, u1, r0, r1⟩ := pick_ok c hc hl p1 s1 9 q0 (by omega) (by omega) (by omega)
      obtain ⟨r, e3, r2⟩ := ih (a ++ [10 * i, 10 * i + u]) (i + 1) p2 s2 (by omega) (by omega) (by simp; omega) r0 (by omega)
      refine ⟨r, Ev.step (fun k => ?_) e3, r2⟩
      simp only [spec_DrawGoodSet.l0]
      rw [e1, Option.bind_some]
      show (if i < wrap64 (12 + v) then (spec_l1Cur_pick.f c p1 s1 9).bind _ else some a) = _
      rw [wr (12 + v) (by omega) (by omega), if_pos hz, e2, Option.bind_some, Option.bind_some]
      show (if a.length + [wrap64 (10 * i), wrap64 (wrap64 (10 * i) + u)].length < 17592186044416 then spec_DrawGoodSet.l0 k (a ++ [wrap64 (10 * i), wrap64 (wrap64 (10 * i) + u)]) (wrap64 (i + 1)) c p2 s2 else none) = _
      rw [if_pos (by simp; omega), wr (10 * i) (by omega) (by omega), wr (10 * i + u) (by omega) (by omega), wr (i + 1) (by omega) (by omega)]
    · exact ⟨a, Ev.step (f := fun _ => some a) (fun k => by simp only [spec_DrawGoodSet.l0]; rw [e1, Option.bind_some]; show (if i < wrap64 (12 + v) then _ else some a) = _; rw [wr (12 + v) (by omega) (by omega), if_neg hz]) (Ev.now _), by omega⟩
theorem drawGood_ok (c : List Int) (hc : ∀ x ∈ c, 0 ≤ x ∧ x ≤ 255) (hl : c.length ≤ 1099511627776) : ∃ r, Ev (fun k => spec_DrawGoodSet.f k c) r ∧ r.length ≤ 100 := by
  obtain ⟨b, p1, s1, e1, q0, q1⟩ := one_ok c hc hl 0 0 20 (by omega) (by omega) (by omega) (by omega)
  cases b with
  | true =>
    obtain ⟨r, e2, r2⟩ := drawL_ok c hc hl 20 [] 0 p1 s1 (by omega) (by omega) (by simp) q0 (by omega)
    exact ⟨r, Ev.congr (fun k => by unfold spec_DrawGoodSet.f; rw [e1, Option.bind_some, if_pos rfl]) e2, r2⟩
  | false =>
    obtain ⟨r, p2, s2, e2, r0, _, _⟩ := set_ok c hc hl p1 s1 q0 (by omega)
    exact ⟨r, Ev.congr (fun k => by unfold spec_DrawGoodSet.f; rw [e1, Option.bind_some, if_neg (by simp)]) (Ev.bind e2 (Ev.now _)), r0⟩
theorem drawUnion_ok (c : List Int) (hc : ∀ x ∈ c, 0 ≤ x ∧ x ≤ 255) (hl : c.length ≤ 1099511627776) : ∃ a b, Ev (fun k => spec_DrawUnionSet.f k c) (a, b) ∧ a.length ≤ 100 ∧ b.length ≤ 100 := by
  obtain ⟨a, p1, s1, e1, a0, q0, q1⟩ := set_ok c hc hl 0 0 (by omega) (by omega)
  obtain ⟨b, p2, s2, e2, b0, _, _⟩ := set_ok c hc hl p1 s1 q0 (by omega)
  refine ⟨a, b, ?_, a0, b0⟩
  unfold spec_DrawUnionSet.f
  exact Ev.bind e1 (Ev.bind e2 (Ev.now _))
theorem drawIn_ok (c : List Int) (hc : ∀ x ∈ c, 0 ≤ x ∧ x ≤ 255) (hl : c.length ≤ 1099511627776) : ∃ a r, Ev (fun k => spec_DrawInSet.f k c) (a, r) ∧ a.length ≤ 100 := by
  obtain ⟨a, p1, s1, e1, a0, q0, q1⟩ := set_ok c hc hl 0 0 (by omega) (by omega)
  obtain ⟨v, p2, s2, e2, _, _, _⟩ := among_ok c hc hl p1 s1 [97, 98, 99, 120, 32, 49, 10, 0, 127, 128, 228, 769, 770, 2047, 2048, 4352, 4449, 12354, 44032, 55295, 57344, 65533, 65536, 128512, 1114111] q0 (by omega) (by simp) (by simp)
  refine ⟨a, v, ?_, a0⟩
  unfold spec_DrawInSet.f
  refine Ev.bind e1 ?_
  have e3 : spec_l1Cur_rune.f c p1 s1 = some (v, p2, s2) := by
    unfold spec_l1Cur_rune.f
    rw [e2]
    rfl
  refine Ev.congr (fun k => ?_) (Ev.now (a, v))
  show (spec_l1Cur_rune.f c p1 s1).bind _ = _
  rw [e3]
  rfl
theorem drawCount_ok (c : List Int) (hc : ∀ x ∈ c, 0 ≤ x ∧ x ≤ 255) (hl : c.length ≤ 1099511627776) : ∃ r, Ev (fun k => spec_DrawCountSet.f k c) r ∧ r.length ≤ 100 := by
  obtain ⟨r, e, h⟩ := drawGood_ok c hc hl
  exact ⟨r, by unfold spec_DrawCountSet.f; exact Ev.bind e (Ev.now _), h⟩
theorem same_l (a b : List Int) (hab : a.length = b.length) (hl : a.length ≤ 17592186044416) : ∀ (d j : Nat), j + d = a.length → a.take j = b.take j → Ev (fun k => laws_sameInts.l0 k a b (a.length : Int) (j : Int)) (decide (a = b)) := by
  intro d
  induction d with
  | zero =>
    intro j hj ht
    refine Ev.step (f := fun _ => some (decide (a = b))) (fun k => ?_) (Ev.now _)
    simp only [laws_sameInts.l0]
    rw [if_neg (by omega)]
    rw [List.take_of_length_le (by omega), List.take_of_length_le (by omega)] at ht
    simp [ht]
  | succ d ih =>
    intro j hj ht
    by_cases e : a[j]'(by omega) = b[j]'(by omega)
    · refine Ev.step (f := fun k => laws_sameInts.l0 k a b (a.length : Int) ((j + 1 : Nat) : Int)) (fun k => ?_) (ih (j + 1) (by omega) ?_)
      · simp only [laws_sameInts.l0]
        rw [if_pos (by omega), if_pos (by omega), if_pos (by omega), if_pos (by omega), rd_at a j (by omega), rd_at b j (by omega), if_pos e, wr _ (by omega) (by omega)]
        simp
      · rw [List.take_succ_eq_append_getElem (by omega), List.take_succ_eq_append_getElem (by omega), ht, e]
    · refine Ev.step (f := fun _ => some (decide (a = b))) (fun k => ?_) (Ev.now _)
      simp only [laws_sameInts.l0]
      rw [if_pos (by omega), if_pos (by omega), if_pos (by omega), if_pos (by omega), rd_at a j (by omega), rd_at b j (by omega), if_neg e]
      have : ¬ a = b := fun h => e (by subst h; rfl)
      simp [this]
theorem same_ev (a : List Int) (hl : a.length ≤ 17592186044416) : Ev (fun k => laws_sameInts.f k a a) true := by
  have := same_l a a rfl hl a.length 0 (by omega) (by simp)
  rw [decide_eq_true rfl] at this
  exact Ev.congr (fun k => by unfold laws_sameInts.f; rw [if_pos rfl]; rfl) this
theorem bytes_ok (c : List Int) (h : ∀ x ∈ c, (Lit.int .u8 x).wf = true) : ∀ x ∈ c, 0 ≤ x ∧ x ≤ 255 := by
  intro x hx
  have := h x hx
  unfold Lit.wf at this
  rw [Bool.and_eq_true, decide_eq_true_eq, decide_eq_true_eq] at this
  exact ⟨this.1, this.2⟩
theorem cnt_not (l : List Int) : ∀ fr, 0 ≤ fr → Good fr l = true → fr ≤ 1114112 → cnt l + cnt (notV fr l) = 1114112 - fr := by
  match l with
  | [] =>
    intro fr h0 _ h1
    simp only [notV, cnt]
    by_cases h : fr ≤ 1114111
    · rw [if_pos h]; simp only [cnt]; omega
    · rw [if_neg h]; simp only [cnt]; omega
  | [_] => intro fr _ h; simp [Good] at h
  | x :: y :: r =>
    intro fr h0 h h1
    obtain ⟨g1, g2, g3, g4⟩ := good_cons.1 h
    have ih := cnt_not r (y + 1) (by omega) (good_mono _ _ _ (by omega) g4) (by omega)
    rw [notV]
    by_cases hx : x > fr
    · rw [if_pos hx]
      simp only [cnt, List.cons_append, List.nil_append]
      omega
    · rw [if_neg hx]
      simp only [cnt, List.nil_append]
      omega
termination_by l.length
theorem not_not (l : List Int) (h : Good 0 l = true) : notV 0 (notV 0 l) = l := by
  have g1 := notV_good l 0 (by omega) h
  have g2 := notV_good _ 0 (by omega) g1
  refine good_ext _ _ 0 0 g2 h fun n => ?_
  rw [notV_mem n _ 0 (by omega) g1, notV_mem n l 0 (by omega) h]
  cases e : memV n l with
  | false => cases inB 0 1114111 n <;> simp
  | true =>
    have := good_mem_ge l 0 n h e
    rw [(inB_iff 0 1114111 n).2 this]
    simp
def cntR (l : List Int) : Int × Bool := if GoodS l = true then (cnt l, true) else (0, false)
theorem made_true (l : List Int) (h : (made l).2 = true) : made l = (l, true) ∧ GoodS l = true := by
  unfold made at h ⊢
  cases hg : GoodS l with
  | false => rw [hg] at h; simp at h
  | true => simp
theorem FnSets : laws_FnSets.Pure := by
  intro c d hm1 hs1 hw1 hm2 hs2 hw2
  refine Ev.rounds (r := true) ?_
  unfold laws_FnSets.f
  have hb1 := bytes_ok c hw1
  have hb2 := bytes_ok d hw2
  have big : ∃ t, laws_big.f c d = some t ∧ (t = false → c.length ≤ 1048576 ∧ d.length ≤ 1048576) := by
    unfold laws_big.f
    by_cases h : (c.length : Int) > 1048576
    · exact ⟨true, by rw [if_pos h], by simp⟩
    · refine ⟨decide ((d.length : Int) > wrap64 (1048576 - (c.length : Int))), by rw [if_neg h], fun h2 => ?_⟩
      rw [wr _ (by omega) (by omega)] at h2
      have := of_decide_eq_false h2
      omega
  obtain ⟨t, e0, ht⟩ := big
  rw [e0]
  cases t with
  | true => exact Ev.congr (fun k => by rw [Option.bind_some, if_pos rfl]) (Ev.now true)
  | false =>
    obtain ⟨hc, hd⟩ := ht rfl
    refine Ev.congr (fun k => by rw [Option.bind_some, if_neg (by simp)]) ?_
    obtain ⟨a, b, ea, la, lb⟩ := drawUnion_ok c hb1 (by omega)
    obtain ⟨s, r, es, ls⟩ := drawIn_ok d hb2 (by omega)
    obtain ⟨q, eq, lq⟩ := drawCount_ok d hb2 (by omega)
    have j3 : Ev (fun k => laws_FnSets.j3 k d) true := by
      refine Ev.step (fun k => by simp only [laws_FnSets.j3]; rfl) ?_
      refine Ev.bind es (Ev.bind (implInSet_ev s r (by omega)) (Ev.bind (specInSet_ev s r (by omega)) (Ev.bind eq (Ev.bind (implCount_ev q (by omega)) (Ev.bind (specCount_ev q (by omega)) ?_)))))
      exact Ev.congr (fun k => by rw [if_pos (by simp), if_pos (by simp), if_pos (by simp)]; simp) (Ev.now true)
    have hn := notR_length a
    have j2 : Ev (fun k => laws_FnSets.j2 k d a (notR a).1 (notR a).2) true := by
      cases hn2 : (notR a).2 with
      | false => exact Ev.step (fun k => by simp only [laws_FnSets.j2]; rw [if_neg (by simp)]) j3
      | true =>
        have hga : GoodS a = true := by
          unfold notR at hn2
          cases hg : GoodS a with
          | false => rw [hg] at hn2; simp at hn2
          | true => rfl
        have hnr : notR a = made (notV 0 a) := by unfold notR; rw [if_pos hga]
        rw [hnr] at hn2
        obtain ⟨m1, m2⟩ := made_true _ hn2
        have g := goodS_good a hga
        have e1 : (notR a).1 = notV 0 a := by rw [hnr, m1]
        have e2 : notR (notV 0 a) = (a, true) := by
          unfold notR
          rw [if_pos m2, not_not a g]
          unfold made
          rw [if_pos hga]
        have hl2 : (notV 0 a).length ≤ 24 := (goodS_facts _ m2).1
        rw [e1]
        have ci := implNotSet_ev (notV 0 a) (by omega)
        rw [e2] at ci
        have c1 := implCount_ev a (by omega)
        have c2 := implCount_ev (notV 0 a) (by omega)
        rw [if_pos hga] at c1
        rw [if_pos m2] at c2
        have hsum := cnt_not a 0 (by omega) g (by omega)
        refine Ev.step (fun k => by simp only [laws_FnSets.j2]; rw [if_pos trivial]) ?_
        refine Ev.bind ci (Ev.bind c1 (Ev.bind c2 ?_))
        refine Ev.congr (fun k => by rw [if_pos rfl]) (Ev.bind (same_ev a (by omega)) ?_)
        refine Ev.congr (fun k => by rw [if_pos rfl, if_pos rfl, if_pos rfl, if_pos (by show wrap64 (cnt a + cnt (notV 0 a)) = 1114112; rw [hsum]; exact (wr _ (by decide) (by decide)).trans rfl)]) j3
    have j1 : ∀ r : Int, Ev (fun k => laws_FnSets.j1 k d a (unionR a b).1 (unionR a b).2 (meetR a b).1 (meetR a b).2 (notR a).1 (notR a).2 r (inR a r).1 (inR b r).1 (if (inR a r).2 = true then (inR b r).2 else false)) true := by
      intro r
      by_cases hok : (inR a r).2 = true ∧ (inR b r).2 = true
      · have ga : GoodS a = true ∧ isR r = true := by
          have := hok.1
          unfold inR at this
          cases h1 : GoodS a with
          | false => rw [h1] at this; simp at this
          | true =>
            cases h2 : isR r with
            | false => rw [h1, h2] at this; simp at this
            | true => exact ⟨rfl, rfl⟩
        have gb : GoodS b = true := by
          have := hok.2
          unfold inR at this
          cases h1 : GoodS b with
          | false => rw [h1] at this; simp at this
          | true => rfl
        have ia : inR a r = (memV r a, true) := by unfold inR; rw [if_pos ga.1, if_pos ga.2]
        have ib : inR b r = (memV r b, true) := by unfold inR; rw [if_pos gb, if_pos ga.2]
        have hu : unionR a b = made (addTo a b) := by unfold unionR; rw [ga.1, gb]; rfl
        have hm : meetR a b = made (meetV a b) := by unfold meetR; rw [ga.1, gb]; rfl
        obtain ⟨u1, u2, u3⟩ := addTo_ok b a 0 (by omega) (goodS_good a ga.1) (goodS_good b gb)
        obtain ⟨v1, v2, _, _, _⟩ := meetV_ok a b (goodS_good a ga.1) (goodS_good b gb)
        have lu := unionR_length a b
        have lm := meetR_length a b
        have eu := implInSet_ev (unionR a b).1 r (by omega)
        have em := implInSet_ev (meetR a b).1 r (by omega)
        have fu : (unionR a b).2 = true → inR (unionR a b).1 r = (memV r a || memV r b, true) := by
          intro h
          rw [hu] at h ⊢
          obtain ⟨w1, w2⟩ := made_true _ h
          rw [w1]
          unfold inR
          rw [if_pos w2, if_pos ga.2, u2]
        have fm : (meetR a b).2 = true → inR (meetR a b).1 r = (memV r a && memV r b, true) := by
          intro h
          rw [hm] at h ⊢
          obtain ⟨w1, w2⟩ := made_true _ h
          rw [w1]
          unfold inR
          rw [if_pos w2, if_pos ga.2, v2]
        rw [ia, ib]
        refine Ev.step (fun k => by simp only [laws_FnSets.j1]; rw [if_pos trivial]) ?_
        refine Ev.bind eu (Ev.bind em ?_)
        generalize (unionR a b).2 = uo at fu ⊢
        generalize (meetR a b).2 = mo at fm ⊢
        generalize inR (unionR a b).1 r = iu at fu ⊢
        generalize inR (meetR a b).1 r = im at fm ⊢
        obtain ⟨iu1, iu2⟩ := iu
        obtain ⟨im1, im2⟩ := im
        cases uo with
        | true =>
          have := fu rfl
          simp only [Prod.mk.injEq] at this
          obtain ⟨rfl, rfl⟩ := this
          cases mo with
          | true =>
            have := fm rfl
            simp only [Prod.mk.injEq] at this
            obtain ⟨rfl, rfl⟩ := this
            cases memV r a <;> cases memV r b <;> exact Ev.congr (fun k => by simp) j2
          | false => cases memV r a <;> cases memV r b <;> exact Ev.congr (fun k => by simp) j2
        | false =>
          cases mo with
          | true =>
            have := fm rfl
            simp only [Prod.mk.injEq] at this
            obtain ⟨rfl, rfl⟩ := this
            cases memV r a <;> cases memV r b <;> exact Ev.congr (fun k => by simp) j2
          | false => exact Ev.congr (fun k => by simp) j2
      · have hf : (if (inR a r).2 = true then (inR b r).2 else false) = false := by
          cases h1 : (inR a r).2 with
          | false => simp
          | true =>
            cases h2 : (inR b r).2 with
            | false => simp
            | true => exact absurd ⟨h1, h2⟩ hok
        rw [hf]
        exact Ev.step (fun k => by simp only [laws_FnSets.j1]; rw [if_neg (by simp)]) j2
    have j0 : Ev (fun k => laws_FnSets.j0 k d a b (unionR a b).1 (unionR a b).2 (meetR a b).1 (meetR a b).2 (notR a).1 (notR a).2 false) true := by
      refine Ev.step (fun k => by simp only [laws_FnSets.j0]; rw [if_neg (by simp)]) ?_
      refine Ev.bind es (Ev.bind (implInSet_ev a r (by omega)) (Ev.bind (implInSet_ev b r (by omega)) ?_))
      have := j1 r
      by_cases h : (inR a r).2 = true
      · rw [if_pos h] at this
        exact Ev.congr (fun k => by rw [if_pos h]) this
      · rw [if_neg h] at this
        exact Ev.congr (fun k => by rw [if_neg h]) this
    have lu := unionR_length a b
    have lm := meetR_length a b
    refine Ev.bind ea (Ev.bind (unionR_impl a b (by omega) (by omega)) (Ev.bind (unionR_spec a b (by omega) (by omega)) (Ev.bind (meetR_impl a b (by omega) (by omega)) (Ev.bind (meetR_spec a b (by omega) (by omega)) (Ev.bind (implNotSet_ev a (by omega)) (Ev.bind (specNotSet_ev a (by omega)) ?_))))))
    refine Ev.congr (fun k => by rw [if_neg (by simp)]) (Ev.bind (same_ev _ (by omega)) (Ev.congr (fun k => by rw [if_pos rfl, if_neg (by simp)]) (Ev.bind (same_ev _ (by omega)) (Ev.congr (fun k => by rw [if_pos rfl, if_neg (by simp)]) (Ev.bind (same_ev _ (by omega)) ?_)))))
    refine Ev.congr (fun k => by rw [if_pos rfl]) (Ev.bind (implSet_ev a (by omega)) (Ev.bind (specSet_ev a (by omega)) ?_))
    exact Ev.congr (fun k => by rw [bne_self_eq_false]) j0

end Go.Proofs.Ythincjdobjccfaa.Pure
