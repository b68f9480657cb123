/-
  For every input the law FnFolded returns true; no condition.
-/
import Derived.Test.YthincjdobjccfaaHFnFoldedx16
import Derived.Laws.BitsLemmas
namespace Go.Proofs.Ythincjdobjccfaa.Pure
open Go.RowKit Go.Proofs.Ythincjdobjccfaa.HFnFolded Go.Proofs.YthincjdobjccfaaW.PrintWords Go.Proofs.YthincjdobjccfaaW.PrintLast
set_option linter.unusedSimpArgs false
set_option linter.unusedVariables false
theorem wr (i : Int) (h0 : -9223372036854775808 ≤ i) (h1 : i ≤ 9223372036854775807) : wrap64 i = i := by unfold wrap64; omega

theorem rd_nat (l : List Int) (j : Nat) : rd l (j : Int) = l.getD j 0 := by unfold rd; simp

theorem getD_at (l : List Int) (j : Nat) (h : j < l.length) : l.getD j 0 = l[j] := by simp [List.getD_eq_getElem?_getD, h]

theorem rd_at (l : List Int) (j : Nat) (h : j < l.length) : rd l (j : Int) = l[j] := by rw [rd_nat, getD_at l j h]

theorem drop_at (l : List Int) (j : Nat) (h : j < l.length) : l.drop j = l[j] :: l.drop (j + 1) := List.drop_eq_getElem_cons h

/-- Within bounds. -/
def inB (lo hi n : Int) : Bool := decide (lo ≤ n ∧ n ≤ hi)
theorem inB_iff (lo hi n : Int) : inB lo hi n = true ↔ lo ≤ n ∧ n ≤ hi := by simp [inB]

theorem in_s (a b c : Int) : spec_l1In.f a b c = some (inB b c a) := by
  unfold spec_l1In.f inB
  by_cases h : a ≥ b
  · rw [if_pos h]; simp [show b ≤ a from h]
  · rw [if_neg h]; simp [show ¬ b ≤ a from h]

theorem in_i (a b c : Int) : impl_inRange.f a b c = some (inB b c a) := by
  unfold impl_inRange.f inB
  by_cases h : b ≤ a
  · rw [if_pos h]; simp [h]
  · rw [if_neg h]; simp [h]

def isR (a : Int) : Bool := inB 0 1114111 a && !inB 55296 57343 a
theorem gr_s (a : Int) : spec_GoodRune.f a = some (isR a) := by
  unfold spec_GoodRune.f isR
  rw [in_s, in_s]
  simp only [Option.bind_some]
  cases inB 0 1114111 a <;> simp

theorem gr_i (a : Int) : impl_GoodRune.f a = some (isR a) := by
  unfold impl_GoodRune.f isR
  rw [in_i, in_i]
  simp only [Option.bind_some]
  cases inB 0 1114111 a <;> simp

theorem l1All_l (lo hi : Int) (l : List Int) (hl : l.length ≤ 17592186044416) : ∀ (d j : Nat), j + d = l.length → Ev (fun k => spec_l1All.l0 k lo hi l (l.length : Int) (j : Int)) ((l.drop j).all (inB lo hi)) := by
  intro d
  induction d with
  | zero =>
    intro j hj
    refine Ev.step (f := fun _ => some ((l.drop j).all (inB lo hi))) (fun k => ?_) (Ev.now _)
    simp only [spec_l1All.l0]
    rw [if_neg (by omega), List.drop_of_length_le (by omega)]
    rfl
  | succ d ih =>
    intro j hj
    cases e : inB lo hi (l[j]'(by omega)) with
    | true =>
      refine Ev.step (f := fun k => spec_l1All.l0 k lo hi l (l.length : Int) ((j + 1 : Nat) : Int)) (fun k => ?_) ?_
      · simp only [spec_l1All.l0]
        rw [if_pos (by omega), if_pos (by omega), if_pos (by omega), rd_at l j (by omega), in_s, wr _ (by omega) (by omega), e]
        simp
      · rw [drop_at l j (by omega), List.all_cons, e, Bool.true_and]
        exact ih (j + 1) (by omega)
    | false =>
      refine Ev.step (f := fun _ => some ((l.drop j).all (inB lo hi))) (fun k => ?_) (Ev.now _)
      simp only [spec_l1All.l0]
      rw [if_pos (by omega), if_pos (by omega), if_pos (by omega), rd_at l j (by omega), in_s, e, drop_at l j (by omega), List.all_cons, e]
      simp

theorem l1All_ev (l : List Int) (hl : l.length ≤ 17592186044416) (lo hi : Int) : Ev (fun k => spec_l1All.f k l lo hi) (l.all (inB lo hi)) :=
  Ev.congr (fun k => by unfold spec_l1All.f; rfl) (l1All_l lo hi l hl l.length 0 (by omega))

theorem specAllRunes_l (l : List Int) (hl : l.length ≤ 17592186044416) : ∀ (d j : Nat), j + d = l.length → Ev (fun k => spec_l1AllRunes.l0 k l l (l.length : Int) (j : Int)) ((l.drop j).all isR && decide (l.length ≤ 1000)) := by
  intro d
  induction d with
  | zero =>
    intro j hj
    refine Ev.step (f := fun _ => some ((l.drop j).all isR && decide (l.length ≤ 1000))) (fun k => ?_) (Ev.now _)
    simp only [spec_l1AllRunes.l0]
    rw [if_neg (by omega), List.drop_of_length_le (by omega)]
    simp
    omega
  | succ d ih =>
    intro j hj
    rw [drop_at l j (by omega), List.all_cons]
    cases e : isR (l[j]'(by omega)) with
    | true =>
      refine Ev.step (f := fun k => spec_l1AllRunes.l0 k l l (l.length : Int) ((j + 1 : Nat) : Int)) (fun k => ?_) (by simpa using ih (j + 1) (by omega))
      simp only [spec_l1AllRunes.l0]
      rw [if_pos (by omega), if_pos (by omega), if_pos (by omega), rd_at l j (by omega), gr_s, wr _ (by omega) (by omega), e]
      simp
    | false =>
      refine Ev.step (f := fun _ => some false) (fun k => ?_) (by simpa using Ev.now false)
      simp only [spec_l1AllRunes.l0]
      rw [if_pos (by omega), if_pos (by omega), if_pos (by omega), rd_at l j (by omega), gr_s, e]
      simp

theorem specAllRunes_ev (l : List Int) (hl : l.length ≤ 17592186044416) : Ev (fun k => spec_l1AllRunes.f k l) (l.all isR && decide (l.length ≤ 1000)) :=
  Ev.congr (fun k => by unfold spec_l1AllRunes.f; rfl) (by simpa using specAllRunes_l l hl l.length 0 (by omega))

theorem goodRuneV_isR (r : Int) : goodRuneV r = isR r := by
  unfold goodRuneV isR inB
  rfl

theorem areRunesV_eq (l : List Int) (m : Int) : areRunesV l m = (l.all isR && decide ((l.length : Int) ≤ m)) := by
  unfold areRunesV
  have e : (!l.any badRuneV) = l.all isR := by
    rw [List.not_any_eq_all_not]
    congr 1
    funext x
    unfold badRuneV
    rw [Bool.not_not, goodRuneV_isR]
  rw [e]
  by_cases h : (l.length : Int) ≤ m
  · simp [h]
  · simp [h]

/-- A set: pairs, each rising, each two ahead of the last one. -/
def Good : Int → List Int → Bool
  | least, a :: b :: r => decide (least ≤ a) && decide (a ≤ b) && decide (b ≤ 1114111) && Good (b + 2) r
  | _, [] => true
  | _, [_] => false

theorem good_mono (l : List Int) : ∀ (a b : Int), a ≤ b → Good b l = true → Good a l = true := by
  intro a b h hg
  match l with
  | [] => rfl
  | [_] => simp [Good] at hg
  | x :: y :: r =>
    simp only [Good, Bool.and_eq_true, decide_eq_true_eq] at hg ⊢
    exact ⟨⟨⟨by omega, hg.1.1.2⟩, hg.1.2⟩, hg.2⟩

/-- A set, with at most twelve spans. -/
def GoodS (l : List Int) : Bool := Good 0 l && decide (l.length ≤ 24)

theorem good_even (l : List Int) : ∀ a, Good a l = true → l.length % 2 = 0 := by
  match l with
  | [] => intro a _; rfl
  | [_] => intro a h; simp [Good] at h
  | x :: y :: r =>
    intro a h
    simp only [Good, Bool.and_eq_true] at h
    have := good_even r _ h.2
    simp only [List.length_cons]
    omega
termination_by l.length

theorem good_all (l : List Int) : ∀ a, 0 ≤ a → Good a l = true → ∀ x ∈ l, 0 ≤ x ∧ x ≤ 1114111 := by
  match l with
  | [] => intro a _ _ x hx; cases hx
  | [_] => intro a _ h; simp [Good] at h
  | y :: z :: r =>
    intro a ha h x hx
    simp [Good] at h
    simp only [List.mem_cons] at hx
    rcases hx with rfl | rfl | hx
    · omega
    · omega
    · exact good_all r (z + 2) (by omega) h.2 x hx
termination_by l.length

def lst (l : List Int) (j : Nat) : Int := if j = 0 then 0 else l.getD (j - 1) 0 + 2

theorem specSet_l (l : List Int) (hl : l.length ≤ 17592186044416) (hr : ∀ x ∈ l, 0 ≤ x ∧ x ≤ 1114111) : ∀ (d j : Nat), j + 2 * d = l.length → Ev (fun k => spec_GoodSet.l0 k l (j : Int)) (Good (lst l j) (l.drop j)) := by
  intro d
  induction d with
  | zero =>
    intro j hj
    refine Ev.step (f := fun _ => some (Good (lst l j) (l.drop j))) (fun k => ?_) (Ev.now _)
    simp only [spec_GoodSet.l0]
    rw [if_neg (by omega), List.drop_of_length_le (by omega)]
    rfl
  | succ d ih =>
    intro j hj
    have ha : 0 ≤ l[j]'(by omega) ∧ l[j]'(by omega) ≤ 1114111 := hr _ (List.getElem_mem _)
    have hb : 0 ≤ l[j + 1]'(by omega) ∧ l[j + 1]'(by omega) ≤ 1114111 := hr _ (List.getElem_mem _)
    have e1 : wrap64 ((j : Int) + 1) = ((j + 1 : Nat) : Int) := by rw [wr _ (by omega) (by omega)]; omega
    have e2 : wrap64 ((j : Int) + 2) = ((j + 2 : Nat) : Int) := by rw [wr _ (by omega) (by omega)]; omega
    have hd : l.drop j = l[j]'(by omega) :: l[j + 1]'(by omega) :: l.drop (j + 2) := by rw [drop_at l j (by omega), drop_at l (j + 1) (by omega)]
    have hn : lst l (j + 2) = l[j + 1]'(by omega) + 2 := by
      unfold lst
      rw [if_neg (by omega), show j + 2 - 1 = j + 1 from by omega, getD_at l (j + 1) (by omega)]
    have ih' := ih (j + 2) (by omega)
    rw [hn] at ih'
    have hg : Good (lst l j) (l.drop j) = (decide (lst l j ≤ l[j]'(by omega)) && decide (l[j]'(by omega) ≤ l[j + 1]'(by omega)) && decide (l[j + 1]'(by omega) ≤ 1114111) && Good (l[j + 1]'(by omega) + 2) (l.drop (j + 2))) := by
      rw [hd, Good]
    rw [hg]
    by_cases h1 : l[j]'(by omega) > l[j + 1]'(by omega)
    · refine Ev.step (f := fun _ => some false) (fun k => ?_) ?_
      · simp only [spec_GoodSet.l0]
        rw [e1, if_pos (by omega), if_pos (by omega), if_pos (by omega), if_pos (by omega), rd_at l j (by omega), rd_at l (j + 1) (by omega), if_pos h1]
      · rw [show decide (l[j]'(by omega) ≤ l[j + 1]'(by omega)) = false from decide_eq_false (by omega)]
        simpa using Ev.now false
    · rw [show decide (l[j]'(by omega) ≤ l[j + 1]'(by omega)) = true from decide_eq_true (by omega), show decide (l[j + 1]'(by omega) ≤ 1114111) = true from decide_eq_true (by omega)]
      by_cases h0 : j = 0
      · subst h0
        rw [show decide (lst l 0 ≤ l[0]'(by omega)) = true from decide_eq_true (by unfold lst; simp; omega)]
        refine Ev.step (f := fun k => spec_GoodSet.l0 k l ((0 + 2 : Nat) : Int)) (fun k => ?_) (by simpa using ih')
        simp only [spec_GoodSet.l0]
        rw [e1, if_pos (by omega), if_pos (by omega), if_pos (by omega), if_pos (by omega), rd_at l 0 (by omega), rd_at l (0 + 1) (by omega), if_neg h1, if_neg (by omega), e2]
      · have e3 : wrap64 ((j : Int) - 1) = ((j - 1 : Nat) : Int) := by rw [wr _ (by omega) (by omega)]; omega
        have hp : 0 ≤ l[j - 1]'(by omega) ∧ l[j - 1]'(by omega) ≤ 1114111 := hr _ (List.getElem_mem _)
        have hs : lst l j = l[j - 1]'(by omega) + 2 := by unfold lst; rw [if_neg h0, getD_at l (j - 1) (by omega)]
        rw [hs]
        by_cases h2 : l[j]'(by omega) < l[j - 1]'(by omega) + 2
        · refine Ev.step (f := fun _ => some false) (fun k => ?_) ?_
          · simp only [spec_GoodSet.l0]
            rw [e1, if_pos (by omega), if_pos (by omega), if_pos (by omega), if_pos (by omega), rd_at l j (by omega), rd_at l (j + 1) (by omega), if_neg h1, if_pos (by omega), e3, if_pos (by omega), if_pos (by omega), rd_at l (j - 1) (by omega), wr (l[j - 1]'(by omega) + 2) (by omega) (by omega), if_pos h2]
          · rw [show decide (l[j - 1]'(by omega) + 2 ≤ l[j]'(by omega)) = false from decide_eq_false (by omega)]
            simpa using Ev.now false
        · refine Ev.step (f := fun k => spec_GoodSet.l0 k l ((j + 2 : Nat) : Int)) (fun k => ?_) ?_
          · simp only [spec_GoodSet.l0]
            rw [e1, if_pos (by omega), if_pos (by omega), if_pos (by omega), if_pos (by omega), rd_at l j (by omega), rd_at l (j + 1) (by omega), if_neg h1, if_pos (by omega), e3, if_pos (by omega), if_pos (by omega), rd_at l (j - 1) (by omega), wr (l[j - 1]'(by omega) + 2) (by omega) (by omega), if_neg h2, e2]
          · rw [show decide (l[j - 1]'(by omega) + 2 ≤ l[j]'(by omega)) = true from decide_eq_true (by omega)]
            simpa using ih'

theorem goodS_bad (l : List Int) (h : ¬ (l.length % 2 = 0 ∧ l.length ≤ 24 ∧ l.all (inB 0 1114111) = true)) : GoodS l = false := by
  cases hg : GoodS l with
  | false => rfl
  | true =>
    unfold GoodS at hg
    rw [Bool.and_eq_true, decide_eq_true_eq] at hg
    refine absurd ⟨good_even l 0 hg.1, hg.2, ?_⟩ h
    rw [List.all_eq_true]
    intro x hx
    exact (inB_iff _ _ _).2 (good_all l 0 (by omega) hg.1 x hx)

theorem specSet_ev (l : List Int) (hl : l.length ≤ 17592186044416) : Ev (fun k => spec_GoodSet.f k l) (GoodS l) := by
  have jt : Ev (fun k => spec_GoodSet.j0 k l true) false := Ev.step (f := fun _ => some false) (fun k => by simp [spec_GoodSet.j0]) (Ev.now _)
  unfold spec_GoodSet.f
  by_cases h1 : l.length % 2 = 1
  · rw [goodS_bad l (by omega)]
    exact Ev.congr (fun k => by rw [if_pos (by omega)]) jt
  · by_cases h2 : l.length ≤ 24
    · refine Ev.congr (f := fun k => (spec_l1All.f k l 0 1114111).bind fun t => spec_GoodSet.j0 k l (!t)) (fun k => by rw [if_neg (by omega), if_neg (by omega)]) ?_
      refine Ev.bind (l1All_ev l hl 0 1114111) ?_
      cases ha : l.all (inB 0 1114111) with
      | false =>
        rw [goodS_bad l (by rw [ha]; simp)]
        exact jt
      | true =>
        refine Ev.step (f := fun k => spec_GoodSet.l0 k l ((0 : Nat) : Int)) (fun k => by simp [spec_GoodSet.j0]) ?_
        have := specSet_l l hl (fun x hx => (inB_iff _ _ _).1 (List.all_eq_true.1 ha x hx)) (l.length / 2) 0 (by omega)
        have e : GoodS l = Good (lst l 0) (l.drop 0) := by unfold GoodS lst; simp [h2]
        rw [e]
        exact this
    · rw [goodS_bad l (by omega)]
      exact Ev.congr (fun k => by rw [if_neg (by omega), if_pos (by omega)]) jt

/-- As the program asks it: number by number. -/
def GA : Bool → Int → List Int → Bool
  | _, _, [] => true
  | p, least, n :: r => inB least 1114111 n && GA (!p) (if p = true then n else n + 2) r

theorem ga_good (l : List Int) : ∀ a, l.length % 2 = 0 → GA true a l = Good a l := by
  match l with
  | [] => intro a _; rfl
  | [_] => intro a h; simp at h
  | x :: y :: r =>
    intro a h
    have ih := ga_good r (y + 2) (by simp only [List.length_cons] at h; omega)
    simp only [GA, Good, Bool.not_true, if_true, Bool.not_false, Bool.false_eq_true, if_false, ih]
    rw [Bool.eq_iff_iff]
    simp only [Bool.and_eq_true, inB_iff, decide_eq_true_eq]
    refine ⟨fun ⟨⟨h1, h2⟩, h3, h4⟩ => ⟨⟨⟨h1, h3.1⟩, h3.2⟩, h4⟩, fun ⟨⟨⟨h1, h2⟩, h3⟩, h4⟩ => ⟨⟨h1, by omega⟩, ⟨h2, h3⟩, h4⟩⟩
termination_by l.length

def lsi (l : List Int) (j : Nat) : Int := if j = 0 then 0 else if j % 2 = 0 then l.getD (j - 1) 0 + 2 else l.getD (j - 1) 0

theorem implSet_l (l : List Int) (hl : l.length ≤ 17592186044416) : ∀ (d j : Nat), j + d = l.length → (j ≠ 0 → l.getD (j - 1) 0 ≤ 1114111) → (j ≠ 0 → 0 ≤ l.getD (j - 1) 0) →
    Ev (fun k => impl_GoodSet.l0 k l l (l.length : Int) (j : Int)) (GA (j % 2 == 0) (lsi l j) (l.drop j) && decide (l.length % 2 = 0 ∧ l.length ≤ 24)) := by
  intro d
  induction d with
  | zero =>
    intro j hj _ _
    refine Ev.step (f := fun _ => some (GA (j % 2 == 0) (lsi l j) (l.drop j) && decide (l.length % 2 = 0 ∧ l.length ≤ 24))) (fun k => ?_) (Ev.now _)
    simp only [impl_GoodSet.l0]
    rw [if_neg (by omega), List.drop_of_length_le (by omega)]
    simp only [GA, Bool.true_and]
    by_cases h : l.length % 2 = 0
    · rw [if_pos (by omega)]
      simp [h]
      omega
    · rw [if_neg (by omega)]
      simp [h]
  | succ d ih =>
    intro j hj hp0 hp1
    have e1 : wrap64 ((j : Int) + 1) = ((j + 1 : Nat) : Int) := by rw [wr _ (by omega) (by omega)]; omega
    rw [drop_at l j (by omega), GA]
    have fin : ∀ (g : Nat → Option Bool), (∀ k, g (k + 1) = (impl_inRange.f (l[j]'(by omega)) (lsi l j) 1114111).bind fun t => if t = true then impl_GoodSet.l0 k l l (l.length : Int) (wrap64 ((j : Int) + 1)) else some false) →
        Ev g ((inB (lsi l j) 1114111 (l[j]'(by omega)) && GA (!(j % 2 == 0)) (if (j % 2 == 0) = true then l[j]'(by omega) else l[j]'(by omega) + 2) (l.drop (j + 1))) && decide (l.length % 2 = 0 ∧ l.length ≤ 24)) := by
      intro g hg
      cases hi : inB (lsi l j) 1114111 (l[j]'(by omega)) with
      | false =>
        refine Ev.step (f := fun _ => some false) (fun k => ?_) (by simpa using Ev.now false)
        rw [hg, in_i, hi]
        simp
      | true =>
        have hb := (inB_iff _ _ _).1 hi
        have h0 : 0 ≤ lsi l j := by
          unfold lsi
          by_cases z : j = 0
          · rw [if_pos z]; omega
          · have := hp1 z
            rw [if_neg z]
            by_cases z2 : j % 2 = 0
            · rw [if_pos z2]; omega
            · rw [if_neg z2]; omega
        refine Ev.step (f := fun k => impl_GoodSet.l0 k l l (l.length : Int) ((j + 1 : Nat) : Int)) (fun k => ?_) ?_
        · rw [hg, in_i, hi, e1]
          simp
        · have hq : l.getD (j + 1 - 1) 0 = l[j]'(by omega) := by rw [show j + 1 - 1 = j from by omega, getD_at l j (by omega)]
          have := ih (j + 1) (by omega) (fun _ => by rw [hq]; omega) (fun _ => by rw [hq]; omega)
          have es : lsi l (j + 1) = if (j % 2 == 0) = true then l[j]'(by omega) else l[j]'(by omega) + 2 := by
            unfold lsi
            rw [if_neg (by omega), hq]
            by_cases z : j % 2 = 0
            · rw [if_neg (by omega), if_pos (by simpa using z)]
            · rw [if_pos (by omega), if_neg (by simpa using z)]
          have ep : ((j + 1) % 2 == 0) = !(j % 2 == 0) := by
            by_cases z : j % 2 = 0
            · have : ¬ (j + 1) % 2 = 0 := by omega
              simp [z, this]
            · have : (j + 1) % 2 = 0 := by omega
              simp [z, this]
          rw [es, ep] at this
          rw [Bool.true_and]
          exact this
    by_cases z : j = 0
    · subst z
      refine Ev.step (f := fun k => impl_GoodSet.j1 k l ((0 : Nat) : Int) (l[0]'(by omega)) 0 l (l.length : Int) ((0 : Nat) : Int) false) (fun k => ?_) (fin _ fun k => ?_)
      · simp only [impl_GoodSet.l0]
        rw [if_pos (by omega), if_pos (by omega), if_pos (by omega), if_neg (by omega), rd_at l 0 (by omega)]
      · simp only [impl_GoodSet.j1]
        rw [if_neg (by simp), if_neg (by omega)]
        rfl
    · have e3 : wrap64 ((j : Int) - 1) = ((j - 1 : Nat) : Int) := by rw [wr _ (by omega) (by omega)]; omega
      have q0 := hp0 z
      have q1 := hp1 z
      have et : ((Int.tmod (j : Int) 2) == 0) = (j % 2 == 0) := by
        rw [show (2 : Int) = ((2 : Nat) : Int) from rfl, ← Int.ofNat_tmod, Bool.eq_iff_iff]
        simp only [beq_iff_eq]
        omega
      refine Ev.step (f := fun k => impl_GoodSet.j1 k l (j : Int) (l[j]'(by omega)) 0 l (l.length : Int) (j : Int) (j % 2 == 0)) (fun k => ?_) (fin _ fun k => ?_)
      · simp only [impl_GoodSet.l0]
        rw [if_pos (by omega), if_pos (by omega), if_pos (by omega), if_pos (by omega), rd_at l j (by omega), et]
      · simp only [impl_GoodSet.j1]
        by_cases z2 : j % 2 = 0
        · rw [if_pos (by simpa using z2), e3, if_pos (by omega), if_pos (by omega), rd_nat, wr (l.getD (j - 1) 0 + 2) (by omega) (by omega)]
          unfold lsi
          rw [if_neg z, if_pos z2]
        · rw [if_neg (by simpa using z2), if_pos (by omega), e3, if_pos (by omega), if_pos (by omega), rd_nat]
          unfold lsi
          rw [if_neg z, if_neg z2]

theorem implSet_ev (l : List Int) (hl : l.length ≤ 17592186044416) : Ev (fun k => impl_GoodSet.f k l) (GoodS l) := by
  have h := implSet_l l hl l.length 0 (by omega) (fun h => absurd rfl h) (fun h => absurd rfl h)
  have e : GoodS l = (GA (0 % 2 == 0) (lsi l 0) (l.drop 0) && decide (l.length % 2 = 0 ∧ l.length ≤ 24)) := by
    by_cases hev : l.length % 2 = 0
    · show (Good 0 l && decide (l.length ≤ 24)) = (GA true 0 l && _)
      rw [ga_good l 0 hev]
      simp [hev]
    · rw [goodS_bad l (by omega)]
      simp [hev]
  rw [e]
  exact Ev.congr (fun k => by unfold impl_GoodSet.f; rfl) h

theorem goodS_facts (l : List Int) (h : GoodS l = true) : l.length ≤ 24 ∧ l.length % 2 = 0 ∧ ∀ x ∈ l, 0 ≤ x ∧ x ≤ 1114111 := by
  unfold GoodS at h
  rw [Bool.and_eq_true, decide_eq_true_eq] at h
  exact ⟨h.2, good_even l 0 h.1, good_all l 0 (by omega) h.1⟩

/-- The spans of a set. -/
def spansV : List Int → List S48
  | a :: b :: r => ⟨a, b⟩ :: spansV r
  | _ => []

theorem spansV_length (l : List Int) : (spansV l).length ≤ l.length := by
  match l with
  | [] => simp [spansV]
  | [_] => simp [spansV]
  | a :: b :: r =>
    have := spansV_length r
    simp only [spansV, List.length_cons]
    omega
termination_by l.length

theorem spansOf_l (l : List Int) (hl : l.length ≤ 4398046511104) : ∀ (d j : Nat) (acc : List S48), l.length ≤ j + 2 * d → j ≤ l.length + 1 → acc.length ≤ j → Ev (fun k => impl_spansOf.l0 k l acc (j : Int)) (acc ++ spansV (l.drop j)) := by
  intro d
  induction d with
  | zero =>
    intro j acc hj hj2 ha
    refine Ev.step (f := fun _ => some (acc ++ spansV (l.drop j))) (fun k => ?_) (Ev.now _)
    simp only [impl_spansOf.l0]
    rw [wr _ (by omega) (by omega), if_neg (by omega), List.drop_of_length_le (by omega)]
    simp [spansV]
  | succ d ih =>
    intro j acc hj hj2 ha
    have e1 : wrap64 ((j : Int) + 1) = ((j + 1 : Nat) : Int) := by rw [wr _ (by omega) (by omega)]; omega
    have e2 : wrap64 ((j : Int) + 2) = ((j + 2 : Nat) : Int) := by rw [wr _ (by omega) (by omega)]; omega
    by_cases h : j + 1 < l.length
    · refine Ev.step (f := fun k => impl_spansOf.l0 k l (acc ++ [(⟨l[j]'(by omega), l[j + 1]'(by omega)⟩ : S48)]) ((j + 2 : Nat) : Int)) (fun k => ?_) ?_
      · simp only [impl_spansOf.l0]
        rw [e1, if_pos (by omega), if_pos (by omega), if_pos (by omega), if_pos (by omega), if_pos (by omega), rd_at l j (by omega), rd_at l (j + 1) (by omega), e2]
      · have := ih (j + 2) (acc ++ [(⟨l[j]'(by omega), l[j + 1]'(by omega)⟩ : S48)]) (by omega) (by omega) (by simp; omega)
        rw [drop_at l j (by omega), drop_at l (j + 1) (by omega)]
        simpa only [spansV, List.append_assoc, List.singleton_append] using this
    · refine Ev.step (f := fun _ => some (acc ++ spansV (l.drop j))) (fun k => ?_) (Ev.now _)
      simp only [impl_spansOf.l0]
      rw [e1, if_neg (by omega)]
      have : spansV (l.drop j) = [] := by
        by_cases z : j < l.length
        · rw [drop_at l j z, List.drop_of_length_le (by omega)]
          rfl
        · rw [List.drop_of_length_le (by omega)]
          rfl
      rw [this, List.append_nil]

theorem spansOf_ev (l : List Int) (hl : l.length ≤ 4398046511104) : Ev (fun k => impl_spansOf.f k l) (spansV l) :=
  Ev.congr (fun k => by unfold impl_spansOf.f; rfl) (by simpa using spansOf_l l hl (l.length) 0 [] (by omega) (by omega) (by simp))

theorem rdS_at (l : List S48) (j : Nat) (h : j < l.length) : rd_T48 l (j : Int) = l[j] := by unfold rd_T48; simp [List.getD_eq_getElem?_getD, h]

/-- Is a number in a set? -/
def memV (r : Int) : List Int → Bool
  | a :: b :: t => inB a b r || memV r t
  | _ => false

theorem specIn_l (l : List Int) (r : Int) (hl : l.length ≤ 4398046511104) : ∀ (d j : Nat), j + 2 * d = l.length → Ev (fun k => spec_l4In.l0 k l r (j : Int)) (memV r (l.drop j)) := by
  intro d
  induction d with
  | zero =>
    intro j hj
    refine Ev.step (f := fun _ => some (memV r (l.drop j))) (fun k => ?_) (Ev.now _)
    simp only [spec_l4In.l0]
    rw [if_neg (by omega), List.drop_of_length_le (by omega)]
    rfl
  | succ d ih =>
    intro j hj
    have e1 : wrap64 ((j : Int) + 1) = ((j + 1 : Nat) : Int) := by rw [wr _ (by omega) (by omega)]; omega
    have e2 : wrap64 ((j : Int) + 2) = ((j + 2 : Nat) : Int) := by rw [wr _ (by omega) (by omega)]; omega
    have hd : l.drop j = l[j]'(by omega) :: l[j + 1]'(by omega) :: l.drop (j + 2) := by rw [drop_at l j (by omega), drop_at l (j + 1) (by omega)]
    rw [hd, memV]
    cases h : inB (l[j]'(by omega)) (l[j + 1]'(by omega)) r with
    | true =>
      refine Ev.step (f := fun _ => some true) (fun k => ?_) (by simpa using Ev.now true)
      simp only [spec_l4In.l0]
      rw [e1, if_pos (by omega), if_pos (by omega), if_pos (by omega), if_pos (by omega), rd_at l j (by omega), rd_at l (j + 1) (by omega), in_s, h]
      simp
    | false =>
      refine Ev.step (f := fun k => spec_l4In.l0 k l r ((j + 2 : Nat) : Int)) (fun k => ?_) (by simpa using ih (j + 2) (by omega))
      simp only [spec_l4In.l0]
      rw [e1, if_pos (by omega), if_pos (by omega), if_pos (by omega), if_pos (by omega), rd_at l j (by omega), rd_at l (j + 1) (by omega), in_s, h, e2]
      simp

theorem specIn_ev (l : List Int) (r : Int) (hl : l.length ≤ 4398046511104) (he : l.length % 2 = 0) : Ev (fun k => spec_l4In.f k l r) (memV r l) :=
  Ev.congr (fun k => by unfold spec_l4In.f; rfl) (by simpa using specIn_l l r hl (l.length / 2) 0 (by omega))

theorem inSpans_mem (r : Int) (l : List Int) : inSpans r (spansV l) = memV r l := by
  match l with
  | [] => rfl
  | [_] => rfl
  | a :: b :: t =>
    have ih := inSpans_mem r t
    unfold inSpans at ih ⊢
    simp only [spansV, memV, List.any_cons, ih]
    rfl
termination_by l.length

theorem implIn_ev (l : List Int) (r : Int) (hl : l.length ≤ 4398046511104) : Ev (fun k => impl_inSet.f k l r) (memV r l) := by
  unfold impl_inSet.f
  refine Ev.bind (spansOf_ev l hl) ?_
  rw [inSpans_mem]
  exact Ev.now _

/-- InSet. -/
def inR (l : List Int) (r : Int) : Bool × Bool := if GoodS l = true then if isR r = true then (memV r l, true) else (false, false) else (false, false)
theorem implInSet_ev (l : List Int) (r : Int) (hl : l.length ≤ 4398046511104) : Ev (fun k => impl_InSet.f k l r) (inR l r) := by
  unfold impl_InSet.f inR
  refine Ev.bind (implSet_ev l (by omega)) ?_
  cases hg : GoodS l with
  | false => exact Ev.congr (fun k => by rw [if_neg (by simp)]) (by simpa using Ev.now (false, false))
  | true =>
    rw [gr_i]
    refine Ev.congr (fun k => by rw [if_pos rfl, Option.bind_some]) ?_
    cases isR r with
    | false => exact Ev.congr (fun k => by rw [if_neg (by simp)]) (by simpa using Ev.now (false, false))
    | true => exact Ev.congr (fun k => by rw [if_pos rfl]) (Ev.bind (implIn_ev l r hl) (by simpa using Ev.now (memV r l, true)))

theorem good_cons {a x y : Int} {r : List Int} : Good a (x :: y :: r) = true ↔ a ≤ x ∧ x ≤ y ∧ y ≤ 1114111 ∧ Good (y + 2) r = true := by
  simp only [Good, Bool.and_eq_true, decide_eq_true_eq]
  exact ⟨fun h => ⟨h.1.1.1, h.1.1.2, h.1.2, h.2⟩, fun h => ⟨⟨⟨h.1, h.2.1⟩, h.2.2.1⟩, h.2.2.2⟩⟩

theorem good_mem_ge (l : List Int) : ∀ a r, Good a l = true → memV r l = true → a ≤ r ∧ r ≤ 1114111 := by
  match l with
  | [] => intro a r _ h; simp [memV] at h
  | [_] => intro a r _ h; simp [memV] at h
  | x :: y :: t =>
    intro a r h hm
    obtain ⟨h1, h2, h3, h4⟩ := good_cons.1 h
    simp only [memV, Bool.or_eq_true, inB_iff] at hm
    rcases hm with hm | hm
    · omega
    · have := good_mem_ge t _ r h4 hm
      omega
termination_by l.length

theorem inB_false {a b n : Int} (h : ¬ (a ≤ n ∧ n ≤ b)) : inB a b n = false := by
  cases e : inB a b n with
  | false => rfl
  | true => exact absurd ((inB_iff _ _ _).1 e) h

theorem mem_low (l : List Int) (a r : Int) (h : Good a l = true) (hr : r < a) : memV r l = false := by
  cases e : memV r l with
  | false => rfl
  | true =>
    have := good_mem_ge l a r h e
    omega

/-- Two sets with the same runes are one. -/
theorem good_ext (l : List Int) : ∀ (m : List Int) (a b : Int), Good a l = true → Good b m = true → (∀ n, memV n l = memV n m) → l = m := by
  match l with
  | [] =>
    intro m a b h1 h2 h
    match m with
    | [] => rfl
    | [_] => simp [Good] at h2
    | x :: y :: r =>
      obtain ⟨g1, g2, g3, g4⟩ := good_cons.1 h2
      have := h x
      rw [memV, (inB_iff x y x).2 ⟨by omega, g2⟩] at this
      simp [memV] at this
  | [_] => intro m a b h1; simp [Good] at h1
  | x :: y :: r =>
    intro m a b h1 h2 h
    obtain ⟨g1, g2, g3, g4⟩ := good_cons.1 h1
    match m with
    | [] =>
      have := h x
      rw [memV, (inB_iff x y x).2 ⟨by omega, g2⟩] at this
      simp [memV] at this
    | [_] => simp [Good] at h2
    | x' :: y' :: r' =>
      obtain ⟨f1, f2, f3, f4⟩ := good_cons.1 h2
      have e1 : x = x' := by
        have p := h x
        have q := h x'
        rw [memV, (inB_iff x y x).2 ⟨by omega, g2⟩, Bool.true_or] at p
        rw [show memV x' (x' :: y' :: r') = (inB x' y' x' || memV x' r') from rfl, (inB_iff x' y' x').2 ⟨by omega, f2⟩, Bool.true_or] at q
        have p1 := good_mem_ge _ x' x (good_cons.2 ⟨by omega, f2, f3, f4⟩) p.symm
        have q1 := good_mem_ge _ x x' (good_cons.2 ⟨by omega, g2, g3, g4⟩) q
        omega
      subst e1
      have e2 : y = y' := by
        have side : ∀ (u v : Int) (s s' : List Int), x ≤ u → Good (u + 2) s = true → (∀ n, memV n (x :: u :: s) = memV n (x :: v :: s')) → ¬ u < v := by
          intro u v s s' hu hg hh hlt
          have p := hh (u + 1)
          rw [show memV (u + 1) (x :: u :: s) = (inB x u (u + 1) || memV (u + 1) s) from rfl, show memV (u + 1) (x :: v :: s') = (inB x v (u + 1) || memV (u + 1) s') from rfl, inB_false (by omega), mem_low s _ _ hg (by omega), (inB_iff x v (u + 1)).2 ⟨by omega, by omega⟩] at p
          simp at p
        have p := side y y' r r' g2 g4 h
        have q := side y' y r' r f2 f4 (fun n => (h n).symm)
        omega
      subst e2
      have e3 : r = r' := by
        refine good_ext r r' (y + 2) (y + 2) g4 f4 fun n => ?_
        by_cases hn : n < y + 2
        · rw [mem_low r _ _ g4 hn, mem_low r' _ _ f4 hn]
        · have := h n
          rw [show memV n (x :: y :: r) = (inB x y n || memV n r) from rfl, show memV n (x :: y :: r') = (inB x y n || memV n r') from rfl, inB_false (by omega), Bool.false_or, Bool.false_or] at this
          exact this
      rw [e3]
termination_by l.length
/-- A span added to a set. -/
def addV (a b : Int) : List Int → List Int
  | x :: y :: r => if y < a - 1 then x :: y :: addV a b r else if x > b + 1 then a :: b :: x :: y :: r else addV (if a < x then a else x) (if b > y then b else y) r
  | _ => [a, b]
termination_by l => l.length

theorem add_cons (a b x y : Int) (r : List Int) : addV a b (x :: y :: r) = if y < a - 1 then x :: y :: addV a b r else if x > b + 1 then a :: b :: x :: y :: r else addV (if a < x then a else x) (if b > y then b else y) r := by rw [addV]
theorem add_nil (a b : Int) : addV a b [] = [a, b] := by rw [addV]; intro x y r h; cases h

theorem add_good (l : List Int) : ∀ (c a b : Int), Good c l = true → c ≤ a → a ≤ b → b ≤ 1114111 → Good c (addV a b l) = true := by
  match l with
  | [] => intro c a b _ h1 h2 h3; rw [add_nil]; exact good_cons.2 ⟨h1, h2, h3, rfl⟩
  | [_] => intro c a b h; simp [Good] at h
  | x :: y :: r =>
    intro c a b h h1 h2 h3
    obtain ⟨g1, g2, g3, g4⟩ := good_cons.1 h
    rw [add_cons]
    by_cases c1 : y < a - 1
    · rw [if_pos c1]
      exact good_cons.2 ⟨g1, g2, g3, add_good r (y + 2) a b g4 (by omega) h2 h3⟩
    · rw [if_neg c1]
      by_cases c2 : x > b + 1
      · rw [if_pos c2]
        exact good_cons.2 ⟨h1, h2, h3, good_cons.2 ⟨by omega, g2, g3, g4⟩⟩
      · rw [if_neg c2]
        exact add_good r c _ _ (good_mono r c (y + 2) (by omega) g4) (by split <;> omega) (by split <;> split <;> omega) (by split <;> omega)
termination_by l.length

theorem add_mem (l : List Int) (n : Int) : ∀ (c a b : Int), Good c l = true → a ≤ b → memV n (addV a b l) = (inB a b n || memV n l) := by
  match l with
  | [] => intro c a b _ _; rw [add_nil]; rfl
  | [_] => intro c a b h; simp [Good] at h
  | x :: y :: r =>
    intro c a b h h2
    obtain ⟨g1, g2, g3, g4⟩ := good_cons.1 h
    rw [add_cons]
    by_cases c1 : y < a - 1
    · rw [if_pos c1, memV, add_mem r n (y + 2) a b g4 h2, memV, ← Bool.or_assoc, ← Bool.or_assoc, Bool.or_comm (inB x y n)]
    · rw [if_neg c1]
      by_cases c2 : x > b + 1
      · rw [if_pos c2, memV]
      · rw [if_neg c2, add_mem r n (y + 2) _ _ g4 (by split <;> split <;> omega), memV, ← Bool.or_assoc]
        congr 1
        rw [Bool.eq_iff_iff, Bool.or_eq_true, inB_iff, inB_iff, inB_iff]
        split <;> split <;> omega
termination_by l.length

theorem add_length (l : List Int) : ∀ (a b : Int), (addV a b l).length ≤ l.length + 2 := by
  match l with
  | [] => intro a b; rw [add_nil]; simp
  | [_] => intro a b; rw [addV]; simp; intro x y r h; simp at h
  | x :: y :: r =>
    intro a b
    rw [add_cons]
    by_cases c1 : y < a - 1
    · rw [if_pos c1]
      have := add_length r a b
      simp only [List.length_cons]; omega
    · rw [if_neg c1]
      by_cases c2 : x > b + 1
      · rw [if_pos c2]; simp
      · rw [if_neg c2]
        have := add_length r (if a < x then a else x) (if b > y then b else y)
        simp only [List.length_cons]; omega
termination_by l.length

theorem own_ev (l : List Int) (hl : l.length ≤ 4398046511104) : spec_l1Own.f l = some l := by
  unfold spec_l1Own.f
  simp only [Option.bind_some]
  rw [if_pos (by simp; omega)]
  simp

theorem least_ev (a b : Int) : spec_l1Least.f a b = some (if a < b then a else b) := by unfold spec_l1Least.f; split <;> rfl
theorem most_ev (a b : Int) : spec_l1Most.f a b = some (if a > b then a else b) := by unfold spec_l1Most.f; split <;> rfl

theorem add_l1 (a b : Int) (acc : List Int) (hl : acc.length ≤ 4398046511104) (p : Nat) (hp : p ≤ acc.length) (he : p % 2 = 0) (hlt : ∀ i, i < p → acc.getD i 0 < a) (hge : p < acc.length → a ≤ acc.getD p 0) : ∀ (d j : Nat), j + 2 * d = p → Ev (fun k => spec_l4Add.l1 k a b acc (j : Int)) (acc.take p ++ [a, b] ++ acc.drop p) := by
  intro d
  induction d with
  | zero =>
    intro j hj
    have ej : j = p := by omega
    subst ej
    have t1 : (acc.take j).length ≤ 4398046511104 := by rw [List.length_take]; omega
    have t2 : (acc.take j).length ≤ acc.length := by rw [List.length_take]; omega
    have t3 : (acc.take j ++ [a, b]).length ≤ acc.length + 2 := by rw [List.length_append]; simp only [List.length_cons, List.length_nil]; omega
    have t4 : (acc.drop j).length ≤ acc.length := by rw [List.length_drop]; omega
    refine Ev.step (f := fun _ => some (acc.take j ++ [a, b] ++ acc.drop j)) (fun k => ?_) (Ev.now _)
    simp only [spec_l4Add.l1]
    have body : ((spec_l1Own.f (acc.take ((j : Int)).toNat)).bind fun t147 => ((some (([a, b] : List Int) : List Int)).bind fun y150 => (if t147.length + y150.length < 17592186044416 then ((some (t147 ++ y150 : List Int)).bind fun y153 => ((some (acc.drop ((j : Int)).toNat : List Int)).bind fun y156 => (if y153.length + y156.length < 17592186044416 then (some (y153 ++ y156)) else (none)))) else (none)))) = some (acc.take j ++ [a, b] ++ acc.drop j) := by
      rw [Int.toNat_natCast, own_ev _ t1]
      simp only [Option.bind_some]
      rw [if_pos (by simp only [List.length_cons, List.length_nil]; omega), if_pos (by omega)]
    by_cases h : j < acc.length
    · have := hge h
      rw [getD_at acc j h] at this
      rw [if_pos (by omega), if_pos (by omega), rd_at acc j h, if_neg (by omega), if_pos (by omega)]
      exact body
    · rw [if_neg (by omega), if_pos (by omega), if_pos (by omega)]
      exact body
  | succ d ih =>
    intro j hj
    have e2 : wrap64 ((j : Int) + 2) = ((j + 2 : Nat) : Int) := by rw [wr _ (by omega) (by omega)]; omega
    refine Ev.step (f := fun k => spec_l4Add.l1 k a b acc ((j + 2 : Nat) : Int)) (fun k => ?_) (ih (j + 2) (by omega))
    have := hlt j (by omega)
    rw [getD_at acc j (by omega)] at this
    simp only [spec_l4Add.l1]
    rw [if_pos (by omega), if_pos (by omega), rd_at acc j (by omega), if_pos this, e2]

theorem add_l02 (l : List Int) (hl : l.length ≤ 4398046511104) (a b : Int) (h0 : 0 ≤ a) (hab : a ≤ b) (hb : b ≤ 1114111) (r : List Int) : ∀ (d j : Nat) (acc : List Int), j + 2 * d = l.length → acc.length ≤ j → Good (b + 2) (l.drop j) = true → Ev (fun k => spec_l4Add.l1 k a b (acc ++ l.drop j) ((0 : Nat) : Int)) r → Ev (fun k => spec_l4Add.l0 k l a b acc (j : Int)) r := by
  intro d
  induction d with
  | zero =>
    intro j acc hj ha hg hr
    rw [List.drop_of_length_le (by omega), List.append_nil] at hr
    refine Ev.step (f := fun k => spec_l4Add.l1 k a b acc ((0 : Nat) : Int)) (fun k => ?_) hr
    simp only [spec_l4Add.l0]
    rw [if_neg (by omega)]
    rfl
  | succ d ih =>
    intro j acc hj ha hg hr
    have hd : l.drop j = l[j]'(by omega) :: l[j + 1]'(by omega) :: l.drop (j + 2) := by rw [drop_at l j (by omega), drop_at l (j + 1) (by omega)]
    rw [hd] at hg hr
    obtain ⟨g1, g2, g3, g4⟩ := good_cons.1 hg
    have e1 : wrap64 ((j : Int) + 1) = ((j + 1 : Nat) : Int) := by rw [wr _ (by omega) (by omega)]; omega
    have e2 : wrap64 ((j : Int) + 2) = ((j + 2 : Nat) : Int) := by rw [wr _ (by omega) (by omega)]; omega
    have ih' := ih (j + 2) (acc ++ [l[j]'(by omega), l[j + 1]'(by omega)]) (by omega) (by simp; omega) (good_mono _ _ _ (by omega) g4) (by simpa using hr)
    refine Ev.step (f := fun k => spec_l4Add.j1 k l a b acc (j : Int) true) (fun k => ?_) (Ev.step (f := fun k => spec_l4Add.l0 k l a b (acc ++ [l[j]'(by omega), l[j + 1]'(by omega)]) ((j + 2 : Nat) : Int)) (fun k => ?_) ih')
    · simp only [spec_l4Add.l0]
      rw [e1, if_pos (by omega), if_pos (by omega), if_pos (by omega), rd_at l (j + 1) (by omega), rd_at l j (by omega), wr (a - 1) (by omega) (by omega), wr (b + 1) (by omega) (by omega), if_neg (by omega), if_pos (by omega), show decide (l[j]'(by omega) > b + 1) = true from decide_eq_true (by omega)]
    · simp only [spec_l4Add.j1]
      rw [e1, e2, if_pos trivial, if_pos (by omega), if_pos (by omega), if_pos (by omega), if_pos (by omega), rd_at l (j + 1) (by omega), rd_at l j (by omega)]
      simp only [Option.bind_some]
      rw [if_pos (by simp only [List.length_cons, List.length_nil]; omega)]

theorem getD_mem (l : List Int) (i : Nat) (h : i < l.length) : l.getD i 0 ∈ l := by rw [getD_at l i h]; exact List.getElem_mem _

theorem getD_app1 (l m : List Int) (i : Nat) (h : i < l.length) : (l ++ m).getD i 0 = l.getD i 0 := by simp [List.getD_eq_getElem?_getD, List.getElem?_append_left h]
theorem getD_app2 (l m : List Int) : (l ++ m).getD l.length 0 = m.getD 0 0 := by simp [List.getD_eq_getElem?_getD, List.getElem?_append_right]

theorem add_l01 (l : List Int) (hl : l.length ≤ 2199023255552) : ∀ (d j : Nat) (acc : List Int) (a b c : Int), j + 2 * d = l.length → acc.length ≤ j → acc.length % 2 = 0 → 0 ≤ a → a ≤ b → b ≤ 1114111 → 0 ≤ c → Good c (l.drop j) = true → (∀ z ∈ acc, z < a ∧ z < c) → Ev (fun k => spec_l4Add.l0 k l a b acc (j : Int)) (acc ++ addV a b (l.drop j)) := by
  intro d
  induction d with
  | zero =>
    intro j acc a b c hj ha he h0 h1 h2 hc hg hz
    rw [List.drop_of_length_le (by omega), add_nil]
    refine Ev.step (f := fun k => spec_l4Add.l1 k a b acc ((0 : Nat) : Int)) (fun k => ?_) ?_
    · simp only [spec_l4Add.l0]
      rw [if_neg (by omega)]
      rfl
    · have := add_l1 a b acc (by omega) acc.length (by omega) he (fun i hi => (hz _ (getD_mem acc i hi)).1) (fun h => absurd h (by omega)) (acc.length / 2) 0 (by omega)
      simpa using this
  | succ d ih =>
    intro j acc a b c hj ha he h0 h1 h2 hc hg hz
    have hd : l.drop j = l[j]'(by omega) :: l[j + 1]'(by omega) :: l.drop (j + 2) := by rw [drop_at l j (by omega), drop_at l (j + 1) (by omega)]
    have e1 : wrap64 ((j : Int) + 1) = ((j + 1 : Nat) : Int) := by rw [wr _ (by omega) (by omega)]; omega
    have e2 : wrap64 ((j : Int) + 2) = ((j + 2 : Nat) : Int) := by rw [wr _ (by omega) (by omega)]; omega
    have hg' := hg
    rw [hd] at hg'
    obtain ⟨g1, g2, g3, g4⟩ := good_cons.1 hg'
    by_cases c1 : l[j + 1]'(by omega) < a - 1
    · have ih' := ih (j + 2) (acc ++ [l[j]'(by omega), l[j + 1]'(by omega)]) a b (l[j + 1]'(by omega) + 2) (by omega) (by simp; omega) (by simp; omega) h0 h1 h2 (by omega) g4 (by
        intro z hz'
        simp only [List.mem_append, List.mem_cons, List.not_mem_nil, or_false] at hz'
        rcases hz' with hz' | rfl | rfl
        · have := hz z hz'; omega
        · omega
        · omega)
      rw [hd, add_cons, if_pos c1]
      refine Ev.step (f := fun k => spec_l4Add.j1 k l a b acc (j : Int) true) (fun k => ?_) (Ev.step (f := fun k => spec_l4Add.l0 k l a b (acc ++ [l[j]'(by omega), l[j + 1]'(by omega)]) ((j + 2 : Nat) : Int)) (fun k => ?_) (by simpa using ih'))
      · simp only [spec_l4Add.l0]
        rw [e1, if_pos (by omega), if_pos (by omega), if_pos (by omega), rd_at l (j + 1) (by omega), wr (a - 1) (by omega) (by omega), if_pos c1]
      · simp only [spec_l4Add.j1]
        rw [e1, e2, if_pos trivial, if_pos (by omega), if_pos (by omega), if_pos (by omega), if_pos (by omega), rd_at l (j + 1) (by omega), rd_at l j (by omega)]
        simp only [Option.bind_some]
        rw [if_pos (by simp only [List.length_cons, List.length_nil]; omega)]
    · by_cases c2 : l[j]'(by omega) > b + 1
      · have hg2 : Good (b + 2) (l.drop j) = true := by rw [hd]; exact good_cons.2 ⟨by omega, g2, g3, g4⟩
        rw [show addV a b (l.drop j) = a :: b :: l.drop j from by rw [hd, add_cons, if_neg c1, if_pos c2]]
        refine add_l02 l (by omega) a b h0 h1 h2 _ (d + 1) j acc (by omega) ha hg2 ?_
        have hq : (l.drop j).getD 0 0 = l[j]'(by omega) := by rw [hd]; rfl
        have := add_l1 a b (acc ++ l.drop j) (by simp; omega) acc.length (by simp) he (fun i hi => by rw [getD_app1 _ _ _ hi]; exact (hz _ (getD_mem acc i hi)).1) (fun _ => by rw [getD_app2, hq]; omega) (acc.length / 2) 0 (by omega)
        rw [List.take_left, List.drop_left] at this
        simpa using this
      · have ih' := ih (j + 2) acc (if a < l[j]'(by omega) then a else l[j]'(by omega)) (if b > l[j + 1]'(by omega) then b else l[j + 1]'(by omega)) c (by omega) (by omega) he (by split <;> omega) (by split <;> split <;> omega) (by split <;> omega) hc (good_mono _ _ _ (by omega) g4) (by
          intro z hz'
          have := hz z hz'
          refine ⟨?_, this.2⟩
          split <;> omega)
        rw [hd, add_cons, if_neg c1, if_neg c2]
        refine Ev.step (f := fun k => spec_l4Add.j1 k l a b acc (j : Int) false) (fun k => ?_) (Ev.step (f := fun k => spec_l4Add.l0 k l (if a < l[j]'(by omega) then a else l[j]'(by omega)) (if b > l[j + 1]'(by omega) then b else l[j + 1]'(by omega)) acc ((j + 2 : Nat) : Int)) (fun k => ?_) ih')
        · simp only [spec_l4Add.l0]
          rw [e1, if_pos (by omega), if_pos (by omega), if_pos (by omega), rd_at l (j + 1) (by omega), rd_at l j (by omega), wr (a - 1) (by omega) (by omega), wr (b + 1) (by omega) (by omega), if_neg c1, if_pos (by omega), show decide (l[j]'(by omega) > b + 1) = false from decide_eq_false c2]
        · simp only [spec_l4Add.j1]
          rw [e1, e2, if_neg (by simp), if_pos (by omega), if_pos (by omega), rd_at l j (by omega), least_ev]
          simp only [Option.bind_some]
          rw [if_pos (by omega), if_pos (by omega), rd_at l (j + 1) (by omega), most_ev]
          simp only [Option.bind_some]

theorem add_ev (l : List Int) (hl : l.length ≤ 2199023255552) (a b : Int) (hg : Good 0 l = true) (h0 : 0 ≤ a) (h1 : a ≤ b) (h2 : b ≤ 1114111) : Ev (fun k => spec_l4Add.f k l a b) (addV a b l) := by
  have he := good_even l 0 hg
  exact Ev.congr (fun k => by unfold spec_l4Add.f; rfl) (by simpa using add_l01 l hl (l.length / 2) 0 [] a b 0 (by omega) (by simp) rfl h0 h1 h2 (by omega) (by simpa using hg) (by simp))
/-- Sorted spans laid together. -/
def mrgV (a b : Int) : List S48 → List Int
  | x :: r => if x.f0 ≤ b + 1 then mrgV a (mx b x.f1) r else a :: b :: mrgV x.f0 x.f1 r
  | [] => [a, b]
def mrgA : List S48 → List Int
  | x :: r => mrgV x.f0 x.f1 r
  | [] => []
def anyS (n : Int) (l : List S48) : Bool := l.any fun x => inB x.f0 x.f1 n
def SpanOk (x : S48) : Prop := 0 ≤ x.f0 ∧ x.f0 ≤ x.f1 ∧ x.f1 ≤ 1114111

theorem mrg_good (l : List S48) : ∀ (c a b : Int), (∀ x ∈ l, SpanOk x) → (∀ x ∈ l, a ≤ x.f0) → l.Pairwise (fun a b => a.f0 ≤ b.f0) → c ≤ a → a ≤ b → b ≤ 1114111 → Good c (mrgV a b l) = true := by
  induction l with
  | nil => intro c a b _ _ _ h1 h2 h3; exact good_cons.2 ⟨h1, h2, h3, rfl⟩
  | cons x r ih =>
    intro c a b ho hs hp h1 h2 h3
    have ox := ho x (by simp)
    have sx := hs x (by simp)
    obtain ⟨p1, p2⟩ := List.pairwise_cons.1 hp
    unfold SpanOk at ox
    rw [mrgV]
    by_cases h : x.f0 ≤ b + 1
    · rw [if_pos h]
      exact ih c a _ (fun y hy => ho y (by simp [hy])) (fun y hy => hs y (by simp [hy])) p2 h1 (by unfold mx; split <;> omega) (by unfold mx; split <;> omega)
    · rw [if_neg h]
      exact good_cons.2 ⟨h1, h2, h3, ih _ _ _ (fun y hy => ho y (by simp [hy])) p1 p2 (by omega) (by omega) (by omega)⟩

theorem mrg_mem (l : List S48) (n : Int) : ∀ (a b : Int), (∀ x ∈ l, SpanOk x) → (∀ x ∈ l, a ≤ x.f0) → l.Pairwise (fun a b => a.f0 ≤ b.f0) → a ≤ b → memV n (mrgV a b l) = (inB a b n || anyS n l) := by
  induction l with
  | nil => intro a b _ _ _ _; rfl
  | cons x r ih =>
    intro a b ho hs hp h2
    have ox := ho x (by simp)
    have sx := hs x (by simp)
    obtain ⟨p1, p2⟩ := List.pairwise_cons.1 hp
    unfold SpanOk at ox
    rw [mrgV]
    have e : anyS n (x :: r) = (inB x.f0 x.f1 n || anyS n r) := by simp [anyS]
    by_cases h : x.f0 ≤ b + 1
    · rw [if_pos h, ih a _ (fun y hy => ho y (by simp [hy])) (fun y hy => hs y (by simp [hy])) p2 (by unfold mx; split <;> omega), e, ← Bool.or_assoc]
      congr 1
      rw [Bool.eq_iff_iff, Bool.or_eq_true, inB_iff, inB_iff, inB_iff]
      unfold mx
      split <;> omega
    · rw [if_neg h, memV, ih _ _ (fun y hy => ho y (by simp [hy])) p1 p2 (by omega), e]

theorem mrg_length (l : List S48) : ∀ a b, (mrgV a b l).length ≤ 2 * l.length + 2 := by
  induction l with
  | nil => intro a b; simp [mrgV]
  | cons x r ih =>
    intro a b
    rw [mrgV]
    split
    · have := ih a (mx b x.f1); simp only [List.length_cons]; omega
    · have := ih x.f0 x.f1; simp only [List.length_cons]; omega

theorem rdSm_at (l : List S48) (j : Nat) (h : j < l.length) : rd_T48 l (j : Int) = l[j] := by unfold rd_T48; simp [List.getD_eq_getElem?_getD, h]

theorem implMrg_l (l : List S48) (hl : l.length ≤ 1099511627776) (ho : ∀ x ∈ l, SpanOk x) : ∀ (d j : Nat) (A : List Int) (a b : Int), j + d = l.length → A.length + 2 ≤ 2 * j → 0 ≤ b → b ≤ 1114111 → Ev (fun k => impl_setOf.l0 k l (A ++ [a, b]) l (l.length : Int) (j : Int)) (A ++ mrgV a b (l.drop j), l) := by
  intro d
  induction d with
  | zero =>
    intro j A a b hj hA h0 h1
    refine Ev.step (f := fun _ => some (A ++ mrgV a b (l.drop j), l)) (fun k => ?_) (Ev.now _)
    simp only [impl_setOf.l0]
    rw [if_neg (by omega), List.drop_of_length_le (by omega)]
    rfl
  | succ d ih =>
    intro j A a b hj hA h0 h1
    have ox := ho (l[j]'(by omega)) (List.getElem_mem _)
    unfold SpanOk at ox
    have e1 : wrap64 ((j : Int) + 1) = ((j + 1 : Nat) : Int) := by rw [wr _ (by omega) (by omega)]; omega
    have el : (A ++ [a, b]).length = A.length + 2 := by simp
    have e2 : wrap64 (((A ++ [a, b]).length : Int) - 1) = ((A.length + 1 : Nat) : Int) := by rw [el, wr _ (by omega) (by omega)]; omega
    have e3 : rd (A ++ [a, b]) ((A.length + 1 : Nat) : Int) = b := by
      rw [rd_nat]
      simp [List.getD_eq_getElem?_getD, List.getElem?_append_right]
    have e4 : (A ++ [a, b]).set (A.length + 1) (mx b (l[j]'(by omega)).f1) = A ++ [a, mx b (l[j]'(by omega)).f1] := by
      rw [List.set_append_right _ _ (by omega), show A.length + 1 - A.length = 1 from by omega]
      rfl
    rw [List.drop_eq_getElem_cons (show j < l.length by omega), mrgV]
    by_cases h : (l[j]'(by omega)).f0 ≤ b + 1
    · rw [if_pos h]
      refine Ev.step (f := fun k => impl_setOf.l0 k l (A ++ [a, mx b (l[j]'(by omega)).f1]) l (l.length : Int) ((j + 1 : Nat) : Int)) (fun k => ?_) (ih (j + 1) A a (mx b (l[j]'(by omega)).f1) (by omega) (by omega) (by unfold mx; split <;> omega) (by unfold mx; split <;> omega))
      simp only [impl_setOf.l0]
      rw [if_pos (by omega), if_pos (by omega), if_pos (by omega), e2, if_pos (by omega), if_pos (by omega), if_pos (by rw [el]; omega), e3, rdSm_at l j (by omega), wr (b + 1) (by omega) (by omega), if_pos h, Int.toNat_natCast, e4, e1]
    · rw [if_neg h]
      have ih' := ih (j + 1) (A ++ [a, b]) (l[j]'(by omega)).f0 (l[j]'(by omega)).f1 (by omega) (by omega) (by omega) (by omega)
      refine Ev.step (f := fun k => impl_setOf.l0 k l (A ++ [a, b] ++ [(l[j]'(by omega)).f0, (l[j]'(by omega)).f1]) l (l.length : Int) ((j + 1 : Nat) : Int)) (fun k => ?_) (by simpa using ih')
      simp only [impl_setOf.l0]
      rw [if_pos (by omega), if_pos (by omega), if_pos (by omega), e2, if_pos (by omega), if_pos (by omega), if_pos (by rw [el]; omega), e3, rdSm_at l j (by omega), wr (b + 1) (by omega) (by omega), if_neg h, e1]
      simp only [Option.bind_some]
      rw [if_pos (by rw [el]; simp only [List.length_cons, List.length_nil]; omega)]

theorem implMrg_ev (l : List S48) (hl : l.length ≤ 1099511627776) (ho : ∀ x ∈ l, SpanOk x) : Ev (fun k => impl_setOf.l0 k l [] l (l.length : Int) 0) (mrgA l, l) := by
  match l, hl, ho with
  | [], _, _ =>
    refine Ev.step (f := fun _ => some (mrgA [], [])) (fun k => ?_) (Ev.now _)
    simp only [impl_setOf.l0]
    rw [if_neg (by simp)]
    rfl
  | x :: r, hl, ho =>
    have ox := ho x (by simp)
    unfold SpanOk at ox
    have := implMrg_l (x :: r) hl ho r.length 1 [] x.f0 x.f1 (by simp; omega) (by simp) (by omega) (by omega)
    refine Ev.step (f := fun k => impl_setOf.l0 k (x :: r) [x.f0, x.f1] (x :: r) ((x :: r).length : Int) ((1 : Nat) : Int)) (fun k => ?_) (by simpa [mrgA] using this)
    simp only [impl_setOf.l0]
    rw [if_pos (by simp only [List.length_cons]; omega), if_pos (by omega), if_pos (by simp only [List.length_cons]; omega), wr _ (by simp) (by simp), if_neg (by simp), wr _ (by omega) (by omega), show rd_T48 (x :: r) 0 = x from rfl]
    simp only [Option.bind_some]
    rw [if_pos (by simp)]
    rfl

/-- What setOf makes of spans: a set, with the spans' runes. -/
theorem implSetOf_ev (l : List S48) (hl : l.length ≤ 1099511627776) (ho : ∀ x ∈ l, SpanOk x) : ∃ s q, Ev (fun k => impl_setOf.f k l) (s, q) ∧ Good 0 s = true ∧ (∀ n, memV n s = anyS n l) ∧ s.length ≤ 2 * l.length + 2 := by
  have hb : ∀ x ∈ l, 0 ≤ x.f0 ∧ x.f0 ≤ 1099511627776 := fun x hx => by have := ho x hx; unfold SpanOk at this; omega
  obtain ⟨hp, hs⟩ := sortV_spec l hb
  have hlen := hp.length_eq
  have ho2 : ∀ x ∈ sortV l hb, SpanOk x := fun x hx => ho x (hp.mem_iff.1 hx)
  have he := implMrg_ev (sortV l hb) (by omega) ho2
  have ha : ∀ n, anyS n (sortV l hb) = anyS n l := fun n => by
    unfold anyS
    rw [Bool.eq_iff_iff, List.any_eq_true, List.any_eq_true]
    exact ⟨fun ⟨x, hx, h⟩ => ⟨x, hp.mem_iff.1 hx, h⟩, fun ⟨x, hx, h⟩ => ⟨x, hp.mem_iff.2 hx, h⟩⟩
  refine ⟨mrgA (sortV l hb), sortV l hb, ?_, ?_, ?_, ?_⟩
  · refine Ev.congr (f := fun k => impl_setOf.l0 k (sortV l hb) [] (sortV l hb) ((sortV l hb).length : Int) 0) (fun k => ?_) he
    unfold impl_setOf.f impl_span.f
    rw [dif_pos ⟨rfl, by omega, hb⟩, hlen]
    rfl
  · generalize sortV l hb = m at hs ho2
    match m with
    | [] => rfl
    | x :: r =>
      have ox := ho2 x (by simp)
      unfold SpanOk at ox
      obtain ⟨p1, p2⟩ := List.pairwise_cons.1 hs
      exact mrg_good r 0 _ _ (fun y hy => ho2 y (by simp [hy])) p1 p2 (by omega) (by omega) (by omega)
  · intro n
    rw [← ha n]
    generalize sortV l hb = m at hs ho2
    match m with
    | [] => rfl
    | x :: r =>
      have ox := ho2 x (by simp)
      unfold SpanOk at ox
      obtain ⟨p1, p2⟩ := List.pairwise_cons.1 hs
      rw [mrgA, mrg_mem r n _ _ (fun y hy => ho2 y (by simp [hy])) p1 p2 (by omega)]
      simp [anyS]
  · rw [← hlen]
    generalize sortV l hb = m
    match m with
    | [] => simp [mrgA]
    | x :: r =>
      have := mrg_length r x.f0 x.f1
      rw [mrgA]
      simp only [List.length_cons]; omega
/-- A set as it is told: itself, if it is good. -/
def made (l : List Int) : List Int × Bool := if GoodS l = true then (l, true) else ([], false)
theorem specMade_ev (l : List Int) (hl : l.length ≤ 17592186044416) : Ev (fun k => spec_l4Made.f k l) (made l) := by
  unfold spec_l4Made.f made
  refine Ev.bind (specSet_ev l hl) ?_
  cases GoodS l with
  | false => exact Ev.congr (fun k => by rw [if_neg (by simp)]) (by simpa using Ev.now (([] : List Int), false))
  | true => exact Ev.congr (fun k => by rw [if_pos rfl]) (by simpa using Ev.now (l, true))
theorem implMade_ev (l : List Int) (hl : l.length ≤ 17592186044416) : Ev (fun k => impl_goodSet.f k l) (made l) := by
  unfold impl_goodSet.f made
  refine Ev.bind (implSet_ev l hl) ?_
  cases GoodS l with
  | false => exact Ev.congr (fun k => by rw [if_neg (by simp)]) (by simpa using Ev.now (([] : List Int), false))
  | true => exact Ev.congr (fun k => by rw [if_pos rfl]) (by simpa using Ev.now (l, true))
theorem made_length (l : List Int) : (made l).1.length ≤ 24 := by
  unfold made
  cases h : GoodS l with
  | false => simp
  | true =>
    unfold GoodS at h
    rw [Bool.and_eq_true, decide_eq_true_eq] at h
    simpa using h.2

theorem spansV_mem (n : Int) (l : List Int) : anyS n (spansV l) = memV n l := by
  match l with
  | [] => rfl
  | [_] => rfl
  | a :: b :: t =>
    have ih := spansV_mem n t
    unfold anyS at ih ⊢
    simp only [spansV, memV, List.any_cons, ih]
termination_by l.length

theorem spansV_ok (l : List Int) : ∀ c, 0 ≤ c → Good c l = true → ∀ x ∈ spansV l, SpanOk x := by
  match l with
  | [] => intro c _ _ x hx; cases hx
  | [_] => intro c _ h; simp [Good] at h
  | a :: b :: t =>
    intro c hc h x hx
    obtain ⟨g1, g2, g3, g4⟩ := good_cons.1 h
    simp only [spansV, List.mem_cons] at hx
    rcases hx with rfl | hx
    · exact ⟨by show 0 ≤ a; omega, g2, g3⟩
    · exact spansV_ok t (b + 2) (by omega) g4 x hx
termination_by l.length

theorem anyS_append (n : Int) (l m : List S48) : anyS n (l ++ m) = (anyS n l || anyS n m) := by simp [anyS]

theorem goodS_good (l : List Int) (h : GoodS l = true) : Good 0 l = true := by
  unfold GoodS at h
  rw [Bool.and_eq_true] at h
  exact h.1
def hasF (l : List Int) (c : Int) : Bool := memV c l || memV (c + 32) l
def foldTo (l : List Int) : Nat → Int → List Int → List Int
  | 0, _, acc => acc
  | d + 1, c, acc => foldTo l d (c + 1) (if hasF l c = true then addV (c + 32) (c + 32) (addV c c acc) else acc)
def foldM (l : List Int) (n : Int) : Nat → Int → Bool
  | 0, _ => false
  | d + 1, c => (hasF l c && (inB c c n || inB (c + 32) (c + 32) n)) || foldM l n d (c + 1)
def foldSp (l : List Int) : Nat → Int → List S48
  | 0, _ => []
  | d + 1, c => (if hasF l c = true then [(⟨c, c⟩ : S48), ⟨c + 32, c + 32⟩] else []) ++ foldSp l d (c + 1)

theorem foldTo_ok (l : List Int) : ∀ (d : Nat) (c : Int) (acc : List Int), 0 ≤ c → c + d ≤ 1000 → Good 0 acc = true → Good 0 (foldTo l d c acc) = true ∧ (∀ n, memV n (foldTo l d c acc) = (memV n acc || foldM l n d c)) ∧ (foldTo l d c acc).length ≤ acc.length + 4 * d := by
  intro d
  induction d with
  | zero => intro c acc _ _ h; exact ⟨h, fun n => by simp [foldTo, foldM], by simp [foldTo]⟩
  | succ d ih =>
    intro c acc h0 h1 h
    have g1 := add_good acc 0 c c h h0 (by omega) (by omega)
    have g2 := add_good _ 0 (c + 32) (c + 32) g1 (by omega) (by omega) (by omega)
    have n1 := add_length acc c c
    have n2 := add_length (addV c c acc) (c + 32) (c + 32)
    rw [foldTo]
    cases hf : hasF l c with
    | false =>
      rw [if_neg (by simp)]
      obtain ⟨i1, i2, i3⟩ := ih (c + 1) acc (by omega) (by omega) h
      exact ⟨i1, fun n => by rw [i2, foldM, hf]; simp, by omega⟩
    | true =>
      rw [if_pos rfl]
      obtain ⟨i1, i2, i3⟩ := ih (c + 1) (addV (c + 32) (c + 32) (addV c c acc)) (by omega) (by omega) g2
      refine ⟨i1, fun n => ?_, by omega⟩
      rw [i2, foldM, hf, add_mem _ n 0 _ _ g1 (by omega), add_mem acc n 0 _ _ h (by omega), Bool.true_and]
      cases inB c c n <;> cases inB (c + 32) (c + 32) n <;> cases memV n acc <;> rfl

theorem foldSp_ok (l : List Int) : ∀ (d : Nat) (c : Int), 0 ≤ c → c + d ≤ 1000 → (∀ x ∈ foldSp l d c, SpanOk x) ∧ (∀ n, anyS n (foldSp l d c) = foldM l n d c) ∧ (foldSp l d c).length ≤ 2 * d := by
  intro d
  induction d with
  | zero => intro c _ _; exact ⟨fun x hx => (by cases hx), fun n => rfl, by simp [foldSp]⟩
  | succ d ih =>
    intro c h0 h1
    obtain ⟨i1, i2, i3⟩ := ih (c + 1) (by omega) (by omega)
    rw [foldSp]
    cases hf : hasF l c with
    | false =>
      rw [if_neg (by simp), List.nil_append]
      exact ⟨i1, fun n => by rw [i2, foldM, hf]; simp, by omega⟩
    | true =>
      rw [if_pos rfl]
      refine ⟨fun x hx => ?_, fun n => ?_, by rw [List.length_append]; simp only [List.length_cons, List.length_nil]; omega⟩
      · rcases List.mem_append.1 hx with hx | hx
        · simp only [List.mem_cons, List.not_mem_nil, or_false] at hx
          rcases hx with rfl | rfl
          · exact ⟨h0, Int.le_refl _, by show c ≤ 1114111; omega⟩
          · exact ⟨by show 0 ≤ c + 32; omega, Int.le_refl _, by show c + 32 ≤ 1114111; omega⟩
        · exact i1 x hx
      · rw [anyS_append, i2, foldM, hf, Bool.true_and]
        congr 1
        simp [anyS]

theorem specFold_l (l : List Int) (hl : l.length ≤ 1000) (he : l.length % 2 = 0) : ∀ (d : Nat) (c : Int) (acc : List Int), c + d = 91 → 65 ≤ c → acc.length ≤ 1000000 - 4 * d → Good 0 acc = true → Ev (fun k => spec_l4FoldSet.l0 k l acc c) (foldTo l d c acc) := by
  intro d
  induction d with
  | zero =>
    intro c acc hc h0 ha hg
    refine Ev.step (f := fun _ => some acc) (fun k => ?_) (Ev.now _)
    simp only [spec_l4FoldSet.l0]
    rw [if_neg (by omega)]
  | succ d ih =>
    intro c acc hc h0 ha hg
    have g1 := add_good acc 0 c c hg (by omega) (by omega) (by omega)
    have g2 := add_good _ 0 (c + 32) (c + 32) g1 (by omega) (by omega) (by omega)
    have n1 := add_length acc c c
    have n2 := add_length (addV c c acc) (c + 32) (c + 32)
    have w1 : wrap64 (c + 32) = c + 32 := wr _ (by omega) (by omega)
    have w2 : wrap64 (c + 1) = c + 1 := wr _ (by omega) (by omega)
    have jt : Ev (fun k => spec_l4FoldSet.j1 k l acc c true) (foldTo l d (c + 1) (addV (c + 32) (c + 32) (addV c c acc))) := by
      refine Ev.step (fun k => by simp only [spec_l4FoldSet.j1]; rw [if_pos trivial, w1, w2]) ?_
      exact Ev.bind (add_ev acc (by omega) c c hg (by omega) (by omega) (by omega)) (Ev.bind (add_ev _ (by omega) (c + 32) (c + 32) g1 (by omega) (by omega) (by omega)) (ih (c + 1) (addV (c + 32) (c + 32) (addV c c acc)) (by omega) (by omega) (by omega) g2))
    have jf : Ev (fun k => spec_l4FoldSet.j1 k l acc c false) (foldTo l d (c + 1) acc) := by
      refine Ev.step (fun k => by simp only [spec_l4FoldSet.j1]; rw [if_neg (by simp), w2]) ?_
      exact ih (c + 1) acc (by omega) (by omega) (by omega) hg
    rw [foldTo]
    refine Ev.step (fun k => by simp only [spec_l4FoldSet.l0]; rw [if_pos (by omega), w1]) ?_
    refine Ev.bind (specIn_ev l c (by omega) he) ?_
    unfold hasF
    cases memV c l with
    | true =>
      rw [Bool.true_or, if_pos rfl]
      exact Ev.congr (fun k => by rw [if_pos rfl]) jt
    | false =>
      refine Ev.congr (fun k => by rw [if_neg (by simp)]) (Ev.bind (specIn_ev l (c + 32) (by omega) he) ?_)
      rw [Bool.false_or]
      cases memV (c + 32) l with
      | true => rw [if_pos rfl]; exact jt
      | false => rw [if_neg (by simp)]; exact jf

theorem specFold_ev (l : List Int) (hl : l.length ≤ 1000) (hg : Good 0 l = true) : Ev (fun k => spec_l4FoldSet.f k l) (foldTo l 26 65 l) := by
  unfold spec_l4FoldSet.f
  rw [own_ev l (by omega)]
  exact Ev.bind (Ev.now _) (specFold_l l hl (good_even l 0 hg) 26 65 l (by omega) (by omega) (by omega) hg)

theorem implFold_l (l : List Int) (hl : l.length ≤ 1000) (r : List Int) : ∀ (d : Nat) (c : Int) (acc : List S48), c + d = 91 → 65 ≤ c → acc.length ≤ 1000000 - 2 * d → Ev (fun k => (impl_setOf.f k (acc ++ foldSp l d c)).bind fun bt240 => (some bt240.1)) r → Ev (fun k => impl_foldSet.l0 k l acc c) r := by
  intro d
  induction d with
  | zero =>
    intro c acc hc h0 ha hr
    rw [foldSp, List.append_nil] at hr
    refine Ev.step (fun k => ?_) hr
    simp only [impl_foldSet.l0]
    rw [if_neg (by omega)]
  | succ d ih =>
    intro c acc hc h0 ha hr
    have w0 : wrap64 c = c := wr _ (by omega) (by omega)
    have w1 : wrap64 (c + 97) = c + 97 := wr _ (by omega) (by omega)
    have w2 : wrap64 (c + 97 - 65) = c + 32 := by rw [wr _ (by omega) (by omega)]; omega
    have w3 : wrap32 (c + 1) = c + 1 := by unfold wrap32; omega
    rw [foldSp, ← List.append_assoc] at hr
    have st : ∀ g : Nat → Option (List Int), (∀ k, g k = (some ([(⟨c, c⟩ : S48), (⟨c + 32, c + 32⟩ : S48)] : List S48)).bind fun y => if acc.length + y.length < 8796093022208 then impl_foldSet.l0 k l (acc ++ y) (c + 1) else none) → Ev (fun k => (impl_setOf.f k (acc ++ [(⟨c, c⟩ : S48), ⟨c + 32, c + 32⟩] ++ foldSp l d (c + 1))).bind fun bt240 => (some bt240.1)) r → Ev g r := by
      intro g hg h
      refine Ev.congr (fun k => ?_) (ih (c + 1) (acc ++ [(⟨c, c⟩ : S48), ⟨c + 32, c + 32⟩]) (by omega) (by omega) (by rw [List.length_append]; simp only [List.length_cons, List.length_nil]; omega) h)
      rw [hg]
      simp only [Option.bind_some]
      rw [if_pos (by simp only [List.length_cons, List.length_nil]; omega)]
    refine Ev.step (fun k => by simp only [impl_foldSet.l0]; rw [if_pos (by omega), w0, w1, w2, w3]) ?_
    refine Ev.bind (implIn_ev l c (by omega)) ?_
    unfold hasF at hr
    cases hm : memV c l with
    | true =>
      rw [hm, Bool.true_or, if_pos rfl] at hr
      refine st _ (fun k => ?_) hr
      rw [if_pos rfl]
    | false =>
      refine Ev.congr (fun k => by rw [if_neg (by simp)]) (Ev.bind (implIn_ev l (c + 32) (by omega)) ?_)
      rw [hm, Bool.false_or] at hr
      cases hm2 : memV (c + 32) l with
      | true =>
        rw [hm2, if_pos rfl] at hr
        refine st _ (fun k => ?_) hr
        rw [if_pos rfl]
      | false =>
        rw [hm2, if_neg (by simp), List.append_nil] at hr
        refine Ev.congr (fun k => by rw [if_neg (by simp)]) (ih (c + 1) acc (by omega) (by omega) (by omega) hr)

theorem implFold_ev (l : List Int) (hl : l.length ≤ 1000) (hg : Good 0 l = true) : Ev (fun k => impl_foldSet.f k l) (foldTo l 26 65 l) := by
  obtain ⟨g1, g2, g3⟩ := foldTo_ok l 26 65 l (by omega) (by omega) hg
  obtain ⟨s1, s2, s3⟩ := foldSp_ok l 26 65 (by omega) (by omega)
  have n1 := spansV_length l
  obtain ⟨s, q, e1, e2, e3, e4⟩ := implSetOf_ev (spansV l ++ foldSp l 26 65) (by rw [List.length_append]; omega) (by
    intro x hx
    rcases List.mem_append.1 hx with hx | hx
    · exact spansV_ok l 0 (by omega) hg x hx
    · exact s1 x hx)
  have es : s = foldTo l 26 65 l := good_ext s _ 0 0 e2 g1 fun n => by rw [e3, g2, anyS_append, spansV_mem, s2]
  subst es
  unfold impl_foldSet.f
  refine Ev.bind (spansOf_ev l (by omega)) (implFold_l l hl _ 26 65 (spansV l) (by omega) (by omega) (by omega) ?_)
  exact Ev.bind e1 (Ev.now _)

/-- FoldSet. -/
def foldR (l : List Int) : List Int × Bool := if GoodS l = true then made (foldTo l 26 65 l) else ([], false)
theorem foldR_length (l : List Int) : (foldR l).1.length ≤ 24 := by
  unfold foldR
  split
  · exact made_length _
  · simp
theorem foldR_spec (l : List Int) (hl : l.length ≤ 17592186044416) : Ev (fun k => spec_FoldSet.f k l) (foldR l) := by
  unfold spec_FoldSet.f foldR
  refine Ev.bind (specSet_ev l hl) ?_
  cases hg : GoodS l with
  | false => exact Ev.congr (fun k => by rw [if_neg (by simp)]) (by simpa using Ev.now (([] : List Int), false))
  | true =>
    obtain ⟨h1, h2, h3⟩ := goodS_facts l hg
    obtain ⟨g1, g2, g3⟩ := foldTo_ok l 26 65 l (by omega) (by omega) (goodS_good l hg)
    refine Ev.congr (fun k => by rw [if_pos rfl]) (Ev.bind (specFold_ev l (by omega) (goodS_good l hg)) (Ev.bind (specMade_ev (foldTo l 26 65 l) (by omega)) ?_))
    simpa using Ev.now (made (foldTo l 26 65 l))
theorem foldR_impl (l : List Int) (hl : l.length ≤ 17592186044416) : Ev (fun k => impl_FoldSet.f k l) (foldR l) := by
  unfold impl_FoldSet.f foldR
  refine Ev.bind (implSet_ev l hl) ?_
  cases hg : GoodS l with
  | false => exact Ev.congr (fun k => by rw [if_neg (by simp)]) (by simpa using Ev.now (([] : List Int), false))
  | true =>
    obtain ⟨h1, h2, h3⟩ := goodS_facts l hg
    obtain ⟨g1, g2, g3⟩ := foldTo_ok l 26 65 l (by omega) (by omega) (goodS_good l hg)
    refine Ev.congr (fun k => by rw [if_pos rfl]) (Ev.bind (implFold_ev l (by omega) (goodS_good l hg)) (Ev.bind (implMade_ev (foldTo l 26 65 l) (by omega)) ?_))
    simpa using Ev.now (made (foldTo l 26 65 l))
def addAll : List Int → List Int → List Int
  | acc, r :: t => addAll (addV r r acc) t
  | acc, [] => acc

theorem isR_bounds (r : Int) (h : isR r = true) : 0 ≤ r ∧ r ≤ 1114111 := by
  simp only [isR, Bool.and_eq_true, inB_iff] at h
  exact h.1

theorem addAll_ok (l : List Int) : ∀ (acc : List Int), Good 0 acc = true → (∀ x ∈ l, 0 ≤ x ∧ x ≤ 1114111) → Good 0 (addAll acc l) = true ∧ (∀ n, memV n (addAll acc l) = (memV n acc || l.contains n)) ∧ (addAll acc l).length ≤ acc.length + 2 * l.length := by
  induction l with
  | nil => intro acc h _; exact ⟨h, fun n => by simp [addAll], by simp [addAll]⟩
  | cons r t ih =>
    intro acc h hb
    have hr := hb r (by simp)
    have h1 := add_length acc r r
    obtain ⟨g1, g2, g3⟩ := ih (addV r r acc) (add_good acc 0 r r h (by omega) (by omega) (by omega)) (fun x hx => hb x (by simp [hx]))
    refine ⟨g1, fun n => ?_, by simp only [addAll, List.length_cons]; omega⟩
    rw [addAll, g2, add_mem acc n 0 r r h (by omega), List.contains_cons, ← Bool.or_assoc]
    congr 1
    rw [Bool.eq_iff_iff, Bool.or_eq_true, Bool.or_eq_true, inB_iff, beq_iff_eq]
    constructor
    · rintro (h | h)
      · exact Or.inr (by omega)
      · exact Or.inl h
    · rintro (h | h)
      · exact Or.inr h
      · exact Or.inl (by omega)

theorem specSetOf_l (l : List Int) (hl : l.length ≤ 1000) (hb : ∀ x ∈ l, 0 ≤ x ∧ x ≤ 1114111) (r : List Int × Bool) : ∀ (d j : Nat) (acc : List Int), j + d = l.length → acc.length ≤ 2 * j → Good 0 acc = true → Ev (fun k => (spec_l4Made.f k (addAll acc (l.drop j))).bind fun bt => some (bt.1, bt.2)) r → Ev (fun k => spec_SetOf.l0 k acc l (l.length : Int) (j : Int)) r := by
  intro d
  induction d with
  | zero =>
    intro j acc hj ha hg hr
    rw [List.drop_of_length_le (by omega)] at hr
    refine Ev.step (fun k => ?_) hr
    simp only [spec_SetOf.l0]
    rw [if_neg (by omega)]
    rfl
  | succ d ih =>
    intro j acc hj ha hg hr
    have e1 : wrap64 ((j : Int) + 1) = ((j + 1 : Nat) : Int) := by rw [wr _ (by omega) (by omega)]; omega
    have hx := hb (l[j]'(by omega)) (List.getElem_mem _)
    have h1 := add_length acc (l[j]'(by omega)) (l[j]'(by omega))
    rw [drop_at l j (by omega)] at hr
    refine Ev.step (f := fun k => (spec_l4Add.f k acc (l[j]'(by omega)) (l[j]'(by omega))).bind fun t => spec_SetOf.l0 k t l (l.length : Int) ((j + 1 : Nat) : Int)) (fun k => ?_) (Ev.bind (add_ev acc (by omega) (l[j]'(by omega)) (l[j]'(by omega)) hg (by omega) (by omega) (by omega)) (ih (j + 1) (addV (l[j]'(by omega)) (l[j]'(by omega)) acc) (by omega) (by omega) (add_good acc 0 _ _ hg (by omega) (by omega) (by omega)) hr))
    simp only [spec_SetOf.l0]
    rw [if_pos (by omega), if_pos (by omega), if_pos (by omega), rd_at l j (by omega), e1]

def oneS (r : Int) : S48 := ⟨r, r⟩
theorem implSpans_l (l : List Int) (hl : l.length ≤ 1000) (r : List Int × Bool) : ∀ (d j : Nat) (acc : List S48), j + d = l.length → acc.length ≤ j → Ev (fun k => (impl_setOf.f k (acc ++ (l.drop j).map oneS)).bind fun bt230 => ((impl_goodSet.f k bt230.1).bind fun bt234 => (some (bt234.1, bt234.2)))) r → Ev (fun k => impl_SetOf.l0 k acc l (l.length : Int) (j : Int)) r := by
  intro d
  induction d with
  | zero =>
    intro j acc hj ha hr
    rw [List.drop_of_length_le (by omega), List.map_nil, List.append_nil] at hr
    refine Ev.step (fun k => ?_) hr
    simp only [impl_SetOf.l0]
    rw [if_neg (by omega)]
  | succ d ih =>
    intro j acc hj ha hr
    have e1 : wrap64 ((j : Int) + 1) = ((j + 1 : Nat) : Int) := by rw [wr _ (by omega) (by omega)]; omega
    have hd : acc ++ (l.drop j).map oneS = (acc ++ [oneS (l[j]'(by omega))]) ++ (l.drop (j + 1)).map oneS := by rw [drop_at l j (by omega), List.append_assoc]; rfl
    rw [hd] at hr
    refine Ev.step (f := fun k => impl_SetOf.l0 k (acc ++ [oneS (l[j]'(by omega))]) l (l.length : Int) ((j + 1 : Nat) : Int)) (fun k => ?_) (ih (j + 1) _ (by omega) (by simp; omega) hr)
    simp only [impl_SetOf.l0]
    rw [if_pos (by omega), if_pos (by omega), if_pos (by omega), rd_at l j (by omega), if_pos (by omega), e1]
    rfl

/-- SetOf. -/
def setR (l : List Int) : List Int × Bool := if (l.all isR && decide (l.length ≤ 1000)) = true then made (addAll [] l) else ([], false)
theorem setR_length (l : List Int) : (setR l).1.length ≤ 24 := by
  unfold setR
  split
  · exact made_length _
  · simp

theorem setR_spec (l : List Int) (hl : l.length ≤ 17592186044416) : Ev (fun k => spec_SetOf.f k l) (setR l) := by
  unfold spec_SetOf.f setR
  refine Ev.bind (specAllRunes_ev l hl) ?_
  cases h : l.all isR && decide (l.length ≤ 1000) with
  | false => exact Ev.congr (fun k => by rw [if_neg (by simp)]) (by simpa using Ev.now (([] : List Int), false))
  | true =>
    simp only [Bool.and_eq_true, List.all_eq_true, decide_eq_true_eq] at h
    have hb : ∀ x ∈ l, 0 ≤ x ∧ x ≤ 1114111 := fun x hx => isR_bounds x (h.1 x hx)
    obtain ⟨g1, g2, g3⟩ := addAll_ok l [] rfl hb
    refine Ev.congr (f := fun k => spec_SetOf.l0 k ([] : List Int) l (l.length : Int) ((0 : Nat) : Int)) (fun k => by rw [if_pos rfl]; rfl) (specSetOf_l l h.2 hb _ l.length 0 [] (by omega) (by simp) rfl ?_)
    refine Ev.bind (specMade_ev (addAll [] l) (by simp only [List.length_nil] at g3; omega)) ?_
    simpa using Ev.now (made (addAll [] l))

theorem setR_impl (l : List Int) (hl : l.length ≤ 17592186044416) : Ev (fun k => impl_SetOf.f k l) (setR l) := by
  unfold impl_SetOf.f impl_areRunes.f setR
  have ea : areRunesV l 1000 = (l.all isR && decide (l.length ≤ 1000)) := by
    rw [areRunesV_eq]
    congr 1
    rw [Bool.eq_iff_iff, decide_eq_true_eq, decide_eq_true_eq]
    omega
  refine Ev.bind (Ev.now _) ?_
  rw [ea]
  cases h : l.all isR && decide (l.length ≤ 1000) with
  | false => exact Ev.congr (fun k => by rw [if_neg (by simp)]) (by simpa using Ev.now (([] : List Int), false))
  | true =>
    simp only [Bool.and_eq_true, List.all_eq_true, decide_eq_true_eq] at h
    have hb : ∀ x ∈ l, 0 ≤ x ∧ x ≤ 1114111 := fun x hx => isR_bounds x (h.1 x hx)
    obtain ⟨g1, g2, g3⟩ := addAll_ok l [] rfl hb
    refine Ev.congr (f := fun k => impl_SetOf.l0 k ([] : List S48) l (l.length : Int) ((0 : Nat) : Int)) (fun k => by rw [if_pos rfl]; rfl) (implSpans_l l h.2 _ l.length 0 [] (by omega) (by simp) ?_)
    obtain ⟨s, q, e1, e2, e3, e4⟩ := implSetOf_ev (l.map oneS) (by simp; omega) (by
      intro x hx
      obtain ⟨y, hy, rfl⟩ := List.mem_map.1 hx
      have := hb y hy
      unfold SpanOk oneS
      exact ⟨by show 0 ≤ y; omega, Int.le_refl _, by show y ≤ 1114111; omega⟩)
    have es : s = addAll [] l := by
      refine good_ext s _ 0 0 e2 g1 fun n => ?_
      rw [e3, g2, show memV n [] = false from rfl, Bool.false_or, Bool.eq_iff_iff]
      unfold anyS
      rw [List.any_eq_true, List.contains_iff_mem]
      constructor
      · rintro ⟨x, hx, hn⟩
        obtain ⟨y, hy, rfl⟩ := List.mem_map.1 hx
        have := (inB_iff _ _ _).1 hn
        have : n = y := by
          have h1 : y ≤ n := this.1
          have h2 : n ≤ y := this.2
          omega
        rw [this]
        exact hy
      · intro hn
        exact ⟨oneS n, List.mem_map_of_mem hn, (inB_iff _ _ _).2 ⟨Int.le_refl _, Int.le_refl _⟩⟩
    subst es
    simp only [List.drop_zero, List.nil_append]
    refine Ev.bind e1 (Ev.bind (implMade_ev (addAll [] l) (by simp only [List.length_nil] at g3; omega)) ?_)
    simpa using Ev.now (made (addAll [] l))
/-- What lies between the spans. -/
def notV : Int → List Int → List Int
  | from_, a :: b :: r => (if a > from_ then [from_, a - 1] else []) ++ notV (b + 1) r
  | from_, _ => if from_ ≤ 1114111 then [from_, 1114111] else []
def notVS : Int → List S48 → List Int
  | from_, x :: r => (if from_ < x.f0 then [from_, x.f0 - 1] else []) ++ notVS (x.f1 + 1) r
  | from_, [] => if from_ ≤ 1114111 then [from_, 1114111] else []
theorem notVS_spans (l : List Int) : ∀ a, notVS a (spansV l) = notV a l := by
  match l with
  | [] => intro a; rfl
  | [_] => intro a; rfl
  | x :: y :: r => intro a; simp only [spansV, notVS, notV, notVS_spans r, gt_iff_lt]
termination_by l.length
theorem notV_length (l : List Int) : ∀ a, (notV a l).length ≤ l.length + 2 := by
  match l with
  | [] => intro a; simp only [notV]; split <;> simp
  | [_] => intro a; simp only [notV]; split <;> simp
  | x :: y :: r =>
    intro a
    have := notV_length r (y + 1)
    simp only [notV, List.length_append, List.length_cons]
    split <;> simp <;> omega
termination_by l.length

theorem specNot_l (l : List Int) (hl : l.length ≤ 4398046511104) (hr : ∀ x ∈ l, 0 ≤ x ∧ x ≤ 1114111) : ∀ (d j : Nat) (acc : List Int) (fr : Int), j + 2 * d = l.length → acc.length ≤ j → 0 ≤ fr → fr ≤ 1114112 → Ev (fun k => spec_l4Not.l0 k l acc fr (j : Int)) (acc ++ notV fr (l.drop j)) := by
  intro d
  induction d with
  | zero =>
    intro j acc fr hj ha h0 h1
    refine Ev.step (f := fun _ => some (acc ++ notV fr (l.drop j))) (fun k => ?_) (Ev.now _)
    simp only [spec_l4Not.l0]
    rw [if_neg (by omega), List.drop_of_length_le (by omega)]
    by_cases h : fr ≤ 1114111
    · rw [if_pos h]
      simp only [Option.bind_some]
      rw [if_pos (by simp; omega)]
      simp [notV, h]
    · rw [if_neg h]
      simp [notV, h]
  | succ d ih =>
    intro j acc fr hj ha h0 h1
    have hb : 0 ≤ l[j + 1]'(by omega) ∧ l[j + 1]'(by omega) ≤ 1114111 := hr _ (List.getElem_mem _)
    have hc : 0 ≤ l[j]'(by omega) ∧ l[j]'(by omega) ≤ 1114111 := hr _ (List.getElem_mem _)
    have e1 : wrap64 ((j : Int) + 1) = ((j + 1 : Nat) : Int) := by rw [wr _ (by omega) (by omega)]; omega
    have e2 : wrap64 ((j : Int) + 2) = ((j + 2 : Nat) : Int) := by rw [wr _ (by omega) (by omega)]; omega
    have hd : l.drop j = l[j]'(by omega) :: l[j + 1]'(by omega) :: l.drop (j + 2) := by rw [drop_at l j (by omega), drop_at l (j + 1) (by omega)]
    rw [hd]
    by_cases h : l[j]'(by omega) > fr
    · refine Ev.step (f := fun k => spec_l4Not.l0 k l (acc ++ [fr, l[j]'(by omega) - 1]) (l[j + 1]'(by omega) + 1) ((j + 2 : Nat) : Int)) (fun k => ?_) ?_
      · simp only [spec_l4Not.l0]
        rw [e1, if_pos (by omega), if_pos (by omega), rd_at l j (by omega), if_pos h]
        simp only [Option.bind_some]
        rw [if_pos (by simp; omega), if_pos (by omega), if_pos (by omega), rd_at l (j + 1) (by omega), wr (l[j]'(by omega) - 1) (by omega) (by omega), wr (l[j + 1]'(by omega) + 1) (by omega) (by omega), e2]
      · have := ih (j + 2) (acc ++ [fr, l[j]'(by omega) - 1]) (l[j + 1]'(by omega) + 1) (by omega) (by simp; omega) (by omega) (by omega)
        rw [List.append_assoc] at this
        rw [notV, if_pos h]
        exact this
    · refine Ev.step (f := fun k => spec_l4Not.l0 k l acc (l[j + 1]'(by omega) + 1) ((j + 2 : Nat) : Int)) (fun k => ?_) ?_
      · simp only [spec_l4Not.l0]
        rw [e1, if_pos (by omega), if_pos (by omega), rd_at l j (by omega), if_neg h, if_pos (by omega), if_pos (by omega), rd_at l (j + 1) (by omega), wr (l[j + 1]'(by omega) + 1) (by omega) (by omega), e2]
      · have := ih (j + 2) acc (l[j + 1]'(by omega) + 1) (by omega) (by omega) (by omega) (by omega)
        rw [notV, if_neg h]
        exact this

theorem specNot_ev (l : List Int) (hl : l.length ≤ 4398046511104) (he : l.length % 2 = 0) (hr : ∀ x ∈ l, 0 ≤ x ∧ x ≤ 1114111) : Ev (fun k => spec_l4Not.f k l) (notV 0 l) :=
  Ev.congr (fun k => by unfold spec_l4Not.f; rfl) (by simpa using specNot_l l hl hr (l.length / 2) 0 [] 0 (by omega) (by simp) (by omega) (by omega))

theorem u64_range (x : Int) : 0 ≤ IntKind.u64.wrap x ∧ IntKind.u64.wrap x < 18446744073709551616 := by
  unfold IntKind.wrap
  simp [IntKind.signed, IntKind.bits]
  omega
theorem and255 (x : Int) (h0 : 0 ≤ x) (h1 : x < 18446744073709551616) : Go.bits .and .u64 x 255 = x % 256 := by
  have := bits_mask .u64 64 (by decide) (fun n g0 g1 => by unfold IntKind.wrap; simp [IntKind.signed, IntKind.bits]; omega) 8 (by decide) x h0 h1
  simpa using this
/-- A reader of drawn bytes: it tells a byte and goes on by one. -/
theorem next_ok (c : List Int) (hc : ∀ x ∈ c, 0 ≤ x ∧ x ≤ 255) (p s : Int) (h0 : 0 ≤ p) (h1 : p ≤ 1099511627776) (hl : c.length ≤ 1099511627776) : ∃ v s', spec_l1Cur_next.f c p s = some (v, p + 1, s') ∧ 0 ≤ v ∧ v ≤ 255 := by
  have wp : wrap64 (p + 1) = p + 1 := wr _ (by omega) (by omega)
  have low : ∀ y : Int, 0 ≤ wrap64 (Go.bits .and .u64 (IntKind.u64.wrap y / 1099511627776) 255) ∧ wrap64 (Go.bits .and .u64 (IntKind.u64.wrap y / 1099511627776) 255) ≤ 255 := by
    intro y
    have hy := u64_range y
    rw [and255 _ (by omega) (by omega), wr _ (by omega) (by omega)]
    omega
  unfold spec_l1Cur_next.f
  rw [wp]
  by_cases h : p < (c.length : Int)
  · obtain ⟨n, rfl⟩ := Int.eq_ofNat_of_zero_le h0
    have hn : n < c.length := by omega
    have hv := hc _ (List.getElem_mem hn)
    rw [if_pos h, if_pos h0, if_pos (by omega)]
    rw [show rd c (n : Int) = c[n] from rd_at c n hn, wr (c[n]) (by omega) (by omega)]
    exact ⟨c[n], _, rfl, hv.1, hv.2⟩
  · rw [if_neg h, if_neg (by omega)]
    exact ⟨_, _, rfl, (low _).1, (low _).2⟩
theorem pick_ok (c : List Int) (hc : ∀ x ∈ c, 0 ≤ x ∧ x ≤ 255) (hl : c.length ≤ 1099511627776) (p s n : Int) (h0 : 0 ≤ p) (h1 : p ≤ 1000000) (hn0 : 0 ≤ n) (hn : n ≤ 200) : ∃ v p' s', spec_l1Cur_pick.f c p s n = some (v, p', s') ∧ 0 ≤ v ∧ (v < n ∨ v = 0) ∧ 0 ≤ p' ∧ p' ≤ p + 1 := by
  unfold spec_l1Cur_pick.f
  by_cases h : n ≤ 1
  · exact ⟨0, p, s, by rw [if_pos h], by omega, Or.inr rfl, h0, by omega⟩
  · obtain ⟨v, s', e, v0, v1⟩ := next_ok c hc p s h0 (by omega) hl
    rw [if_neg h, e, Option.bind_some, if_neg (by omega), if_neg (by omega)]
    refine ⟨Int.tmod v n, p + 1, s', rfl, ?_, Or.inl ?_, by omega, by omega⟩
    · rw [Int.tmod_eq_emod_of_nonneg v0]; exact Int.emod_nonneg _ (by omega)
    · rw [Int.tmod_eq_emod_of_nonneg v0]; exact Int.emod_lt_of_pos _ (by omega)
theorem among_ok (c : List Int) (hc : ∀ x ∈ c, 0 ≤ x ∧ x ≤ 255) (hl : c.length ≤ 1099511627776) (p s : Int) (l : List Int) (h0 : 0 ≤ p) (h1 : p ≤ 1000000) (hn : 0 < l.length) (hn2 : l.length ≤ 200) : ∃ v p' s', spec_l1Cur_among.f c p s l = some (v, p', s') ∧ v ∈ l ∧ 0 ≤ p' ∧ p' ≤ p + 1 := by
  unfold spec_l1Cur_among.f
  obtain ⟨v, p', s', e, v0, v1, q0, q1⟩ := pick_ok c hc hl p s (l.length : Int) h0 h1 (by omega) (by omega)
  obtain ⟨n, rfl⟩ := Int.eq_ofNat_of_zero_le v0
  have hv : n < l.length := by omega
  rw [e, Option.bind_some, if_pos v0, if_pos (by show (n : Int) < _; omega)]
  exact ⟨l[n], p', s', by show some (rd l (n : Int), p', s') = _; rw [rd_at l n hv], List.getElem_mem hv, q0, q1⟩
theorem one_ok (c : List Int) (hc : ∀ x ∈ c, 0 ≤ x ∧ x ≤ 255) (hl : c.length ≤ 1099511627776) (p s n : Int) (h0 : 0 ≤ p) (h1 : p ≤ 1000000) (hn0 : 0 ≤ n) (hn : n ≤ 200) : ∃ b p' s', spec_l1Cur_one.f c p s n = some (b, p', s') ∧ 0 ≤ p' ∧ p' ≤ p + 1 := by
  unfold spec_l1Cur_one.f
  obtain ⟨v, p', s', e, _, _, q0, q1⟩ := pick_ok c hc hl p s n h0 h1 hn0 hn
  exact ⟨v == 0, p', s', by rw [e]; rfl, q0, q1⟩

theorem setJ_ok (c : List Int) (hc : ∀ x ∈ c, 0 ≤ x ∧ x ≤ 255) (hl : c.length ≤ 1099511627776) (a : List Int) (ha : a.length ≤ 100) (p s : Int) (h0 : 0 ≤ p) (h1 : p ≤ 900000) : ∃ r p' s', Ev (fun k => spec_l1Cur_set.j1 k a c p s) (r, p', s') ∧ r.length ≤ 100 ∧ 0 ≤ p' ∧ p' ≤ p + 2 := by
  by_cases hz : (a.length : Int) > 0
  · obtain ⟨b, p1, s1, e1, q0, q1⟩ := one_ok c hc hl p s 30 h0 (by omega) (by omega) (by omega)
    cases b with
    | false => exact ⟨a, p1, s1, Ev.step (f := fun _ => some (a, p1, s1)) (fun k => by simp only [spec_l1Cur_set.j1]; rw [if_pos hz, e1, Option.bind_some, if_neg (by simp)]) (Ev.now _), ha, q0, by omega⟩
    | true =>
      obtain ⟨v, p2, s2, e2, _, r0, r1⟩ := among_ok c hc hl p1 s1 [-1, 1114112, 64] q0 (by omega) (by simp) (by simp)
      exact ⟨a.set 0 v, p2, s2, Ev.step (f := fun _ => some (a.set 0 v, p2, s2)) (fun k => by simp only [spec_l1Cur_set.j1]; rw [if_pos hz, e1, Option.bind_some, if_pos rfl]; show (spec_l1Cur_among.f c p1 s1 [-1, 1114112, 64]).bind _ = _; rw [e2, Option.bind_some, if_pos hz]; rfl) (Ev.now _), by rw [List.length_set]; exact ha, r0, by omega⟩
  · exact ⟨a, p, s, Ev.step (f := fun _ => some (a, p, s)) (fun k => by simp only [spec_l1Cur_set.j1]; rw [if_neg hz]) (Ev.now _), ha, h0, by omega⟩

theorem setL_ok (c : List Int) (hc : ∀ x ∈ c, 0 ≤ x ∧ x ≤ 255) (hl : c.length ≤ 1099511627776) : ∀ (d : Nat) (a : List Int) (n p s : Int), n ≤ d → 0 ≤ n → n ≤ 10 → a.length + 2 * d ≤ 80 → Good 0 a = true → 0 ≤ p → p + 2 * d ≤ 800000 → ∃ r p' s', Ev (fun k => spec_l1Cur_set.l0 k a n c p s) (r, p', s') ∧ r.length ≤ 100 ∧ 0 ≤ p' ∧ p' ≤ p + 2 * d + 3 := by
  intro d
  induction d with
  | zero =>
    intro a n p s hn n0 n1 ha hg h0 h1
    obtain ⟨b, p1, s1, e1, q0, q1⟩ := one_ok c hc hl p s 12 h0 (by omega) (by omega) (by omega)
    cases b with
    | false =>
      obtain ⟨r, p2, s2, e2, r0, r1, r2⟩ := setJ_ok c hc hl a (by omega) p1 s1 q0 (by omega)
      exact ⟨r, p2, s2, Ev.step (fun k => by simp only [spec_l1Cur_set.l0]; rw [if_neg (by omega), e1, Option.bind_some, if_neg (by simp)]) e2, r0, r1, by omega⟩
    | true =>
      have hb := good_all a 0 (by omega) hg
      have hnl := notV_length a 0
      obtain ⟨r, p2, s2, e2, r0, r1, r2⟩ := setJ_ok c hc hl (notV 0 a) (by omega) p1 s1 q0 (by omega)
      exact ⟨r, p2, s2, Ev.step (fun k => by simp only [spec_l1Cur_set.l0]; rw [if_neg (by omega), e1, Option.bind_some, if_pos rfl]) (Ev.bind (specNot_ev a (by omega) (good_even a 0 hg) hb) e2), r0, r1, by omega⟩
  | succ d ih =>
    intro a n p s hn n0 n1 ha hg h0 h1
    by_cases hz : n > 0
    · obtain ⟨v, p1, s1, e1, m1, q0, q1⟩ := among_ok c hc hl p s [0, 48, 65, 70, 90, 97, 98, 110, 122, 200, 12354, 1114111] h0 (by omega) (by simp) (by simp)
      obtain ⟨u, p2, s2, e2, m2, r0, r1⟩ := among_ok c hc hl p1 s1 [0, 0, 1, 2, 9, 25, 300] q0 (by omega) (by simp) (by simp)
      have hv : 0 ≤ v ∧ v ≤ 1114111 := by
        simp only [List.mem_cons, List.not_mem_nil, or_false] at m1
        omega
      have hu : 0 ≤ u ∧ u ≤ 300 := by
        simp only [List.mem_cons, List.not_mem_nil, or_false] at m2
        omega
      have hw : wrap64 (v + u) = v + u := wr _ (by omega) (by omega)
      have ht : v ≤ (if (1114111 : Int) < v + u then 1114111 else v + u) ∧ (if (1114111 : Int) < v + u then 1114111 else v + u) ≤ 1114111 := by split <;> omega
      have hlen := add_length a v (if (1114111 : Int) < v + u then 1114111 else v + u)
      obtain ⟨r, p3, s3, e3, t0, t1, t2⟩ := ih (addV v (if (1114111 : Int) < v + u then 1114111 else v + u) a) (n - 1) p2 s2 (by omega) (by omega) (by omega) (by omega) (add_good a 0 _ _ hg hv.1 ht.1 ht.2) r0 (by omega)
      refine ⟨r, p3, s3, Ev.step (f := fun k => (spec_l4Add.f k a v (if (1114111 : Int) < v + u then 1114111 else v + u)).bind fun t => spec_l1Cur_set.l0 k t (n - 1) c p2 s2) (fun k => ?_) (Ev.bind (add_ev a (by omega) v _ hg hv.1 ht.1 ht.2) e3), t0, t1, by omega⟩
      simp only [spec_l1Cur_set.l0]
      rw [if_pos hz]
      show (spec_l1Cur_among.f c p s [0, 48, 65, 70, 90, 97, 98, 110, 122, 200, 12354, 1114111]).bind _ = _
      rw [e1, Option.bind_some]
      show (spec_l1Cur_among.f c p1 s1 [0, 0, 1, 2, 9, 25, 300]).bind _ = _
      rw [e2, Option.bind_some]
      show (spec_l1Least.f 1114111 (wrap64 (v + u))).bind _ = _
      rw [hw, least_ev, Option.bind_some, wr (n - 1) (by omega) (by omega)]
    · obtain ⟨r, p', s', e, r0, r1, r2⟩ := ih a n p s (by omega) n0 n1 (by omega) hg h0 (by omega)
      exact ⟨r, p', s', e, r0, r1, by omega⟩
theorem set_ok (c : List Int) (hc : ∀ x ∈ c, 0 ≤ x ∧ x ≤ 255) (hl : c.length ≤ 1099511627776) (p s : Int) (h0 : 0 ≤ p) (h1 : p ≤ 700000) : ∃ r p' s', Ev (fun k => spec_l1Cur_set.f k c p s) (r, p', s') ∧ r.length ≤ 100 ∧ 0 ≤ p' ∧ p' ≤ p + 100 := by
  obtain ⟨v, p1, s1, e1, v0, v1, q0, q1⟩ := pick_ok c hc hl p s 4 h0 (by omega) (by omega) (by omega)
  obtain ⟨r, p2, s2, e2, r0, r1, r2⟩ := setL_ok c hc hl 10 [] v p1 s1 (by omega) v0 (by omega) (by simp) rfl q0 (by omega)
  exact ⟨r, p2, s2, Ev.congr (fun k => by unfold spec_l1Cur_set.f; rw [e1, Option.bind_some]) e2, r0, r1, by omega⟩

theorem drawL_ok (c : List Int) (hc : ∀ x ∈ c, 0 ≤ x ∧ x ≤ 255) (hl : c.length ≤ 1099511627776) : ∀ (d : Nat) (a : List Int) (i p s : Int), i + d = 20 → 0 ≤ i → (a.length : Int) ≤ 2 * i → 0 ≤ p → p ≤ 600000 + 2 * i → ∃ r, Ev (fun k => spec_DrawGoodSet.l0 k a i c p s) r ∧ r.length ≤ 100 := by
  intro d
  induction d with
  | zero =>
    intro a i p s hi i0 ha h0 h1
    obtain ⟨v, p1, s1, e1, v0, v1, q0, q1⟩ := pick_ok c hc hl p s 2 h0 (by omega) (by omega) (by omega)
    exact ⟨a, Ev.step (f := fun _ => some a) (fun k => by simp only [spec_DrawGoodSet.l0]; rw [e1, Option.bind_some]; show (if i < wrap64 (12 + v) then _ else some a) = _; rw [wr (12 + v) (by omega) (by omega), if_neg (by omega)]) (Ev.now _), by omega⟩
  | succ d ih =>
    intro a i p s hi i0 ha h0 h1
    obtain ⟨v, p1, s1, e1, v0, v1, q0, q1⟩ := pick_ok c hc hl p s 2 h0 (by omega) (by omega) (by omega)
    by_cases hz : i < 12 + v
    · obtain ⟨u, p2, s2, e2, u0, u1, r0, r1⟩ := pick_ok c hc hl p1 s1 9 q0 (by omega) (by omega) (by omega)
      obtain ⟨r, e3, r2⟩ := ih (a ++ [10 * i, 10 * i + u]) (i + 1) p2 s2 (by omega) (by omega) (by simp; omega) r0 (by omega)
      refine ⟨r, Ev.step (fun k => ?_) e3, r2⟩
      simp only [spec_DrawGoodSet.l0]
      rw [e1, Option.bind_some]
      show (if i < wrap64 (12 + v) then (spec_l1Cur_pick.f c p1 s1 9).bind _ else some a) = _
      rw [wr (12 + v) (by omega) (by omega), if_pos hz, e2, Option.bind_some, Option.bind_some]
      show (if a.length + [wrap64 (10 * i), wrap64 (wrap64 (10 * i) + u)].length < 17592186044416 then spec_DrawGoodSet.l0 k (a ++ [wrap64 (10 * i), wrap64 (wrap64 (10 * i) + u)]) (wrap64 (i + 1)) c p2 s2 else none) = _
      rw [if_pos (by simp; omega), wr (10 * i) (by omega) (by omega), wr (10 * i + u) (by omega) (by omega), wr (i + 1) (by omega) (by omega)]
    · exact ⟨a, Ev.step (f := fun _ => some a) (fun k => by simp only [spec_DrawGoodSet.l0]; rw [e1, Option.bind_some]; show (if i < wrap64 (12 + v) then _ else some a) = _; rw [wr (12 + v) (by omega) (by omega), if_neg hz]) (Ev.now _), by omega⟩
theorem drawGood_ok (c : List Int) (hc : ∀ x ∈ c, 0 ≤ x ∧ x ≤ 255) (hl : c.length ≤ 1099511627776) : ∃ r, Ev (fun k => spec_DrawGoodSet.f k c) r ∧ r.length ≤ 100 := by
  obtain ⟨b, p1, s1, e1, q0, q1⟩ := one_ok c hc hl 0 0 20 (by omega) (by omega) (by omega) (by omega)
  cases b with
  | true =>
    obtain ⟨r, e2, r2⟩ := drawL_ok c hc hl 20 [] 0 p1 s1 (by omega) (by omega) (by simp) q0 (by omega)
    exact ⟨r, Ev.congr (fun k => by unfold spec_DrawGoodSet.f; rw [e1, Option.bind_some, if_pos rfl]) e2, r2⟩
  | false =>
    obtain ⟨r, p2, s2, e2, r0, _, _⟩ := set_ok c hc hl p1 s1 q0 (by omega)
    exact ⟨r, Ev.congr (fun k => by unfold spec_DrawGoodSet.f; rw [e1, Option.bind_some, if_neg (by simp)]) (Ev.bind e2 (Ev.now _)), r0⟩
theorem same_l (a b : List Int) (hab : a.length = b.length) (hl : a.length ≤ 17592186044416) : ∀ (d j : Nat), j + d = a.length → a.take j = b.take j → Ev (fun k => laws_sameInts.l0 k a b (a.length : Int) (j : Int)) (decide (a = b)) := by
  intro d
  induction d with
  | zero =>
    intro j hj ht
    refine Ev.step (f := fun _ => some (decide (a = b))) (fun k => ?_) (Ev.now _)
    simp only [laws_sameInts.l0]
    rw [if_neg (by omega)]
    rw [List.take_of_length_le (by omega), List.take_of_length_le (by omega)] at ht
    simp [ht]
  | succ d ih =>
    intro j hj ht
    by_cases e : a[j]'(by omega) = b[j]'(by omega)
    · refine Ev.step (f := fun k => laws_sameInts.l0 k a b (a.length : Int) ((j + 1 : Nat) : Int)) (fun k => ?_) (ih (j + 1) (by omega) ?_)
      · simp only [laws_sameInts.l0]
        rw [if_pos (by omega), if_pos (by omega), if_pos (by omega), if_pos (by omega), rd_at a j (by omega), rd_at b j (by omega), if_pos e, wr _ (by omega) (by omega)]
        simp
      · rw [List.take_succ_eq_append_getElem (by omega), List.take_succ_eq_append_getElem (by omega), ht, e]
    · refine Ev.step (f := fun _ => some (decide (a = b))) (fun k => ?_) (Ev.now _)
      simp only [laws_sameInts.l0]
      rw [if_pos (by omega), if_pos (by omega), if_pos (by omega), if_pos (by omega), rd_at a j (by omega), rd_at b j (by omega), if_neg e]
      have : ¬ a = b := fun h => e (by subst h; rfl)
      simp [this]
theorem same_ev (a : List Int) (hl : a.length ≤ 17592186044416) : Ev (fun k => laws_sameInts.f k a a) true := by
  have := same_l a a rfl hl a.length 0 (by omega) (by simp)
  rw [decide_eq_true rfl] at this
  exact Ev.congr (fun k => by unfold laws_sameInts.f; rw [if_pos rfl]; rfl) this
theorem bytes_ok (c : List Int) (h : ∀ x ∈ c, (Lit.int .u8 x).wf = true) : ∀ x ∈ c, 0 ≤ x ∧ x ≤ 255 := by
  intro x hx
  have := h x hx
  unfold Lit.wf at this
  rw [Bool.and_eq_true, decide_eq_true_eq, decide_eq_true_eq] at this
  exact ⟨this.1, this.2⟩
theorem dsoT_ok : ∀ (d : Nat) (a : List Int) (i : Int), i + d = 13 → 0 ≤ i → a.length + d ≤ 90 → ∃ r, Ev (fun k => spec_DrawSetOf.l1 k a i) r ∧ r.length ≤ 100 := by
  intro d
  induction d with
  | zero =>
    intro a i hi i0 ha
    exact ⟨a, Ev.step (f := fun _ => some a) (fun k => by simp only [spec_DrawSetOf.l1]; rw [if_neg (by omega)]) (Ev.now _), by omega⟩
  | succ d ih =>
    intro a i hi i0 ha
    obtain ⟨r, e, h⟩ := ih (a ++ [2 * i]) (i + 1) (by omega) (by omega) (by simp; omega)
    exact ⟨r, Ev.step (fun k => by simp only [spec_DrawSetOf.l1]; rw [if_pos (by omega), if_pos (by omega), wr (2 * i) (by omega) (by omega), wr (i + 1) (by omega) (by omega)]) e, h⟩
theorem dso_ok (c : List Int) (hc : ∀ x ∈ c, 0 ≤ x ∧ x ≤ 255) (hl : c.length ≤ 1099511627776) : ∀ (d : Nat) (a : List Int) (n p s : Int), n ≤ d → 0 ≤ n → n ≤ 10 → a.length + d ≤ 70 → 0 ≤ p → p + d ≤ 600000 → ∃ r, Ev (fun k => spec_DrawSetOf.l0 k a n c p s) r ∧ r.length ≤ 100 := by
  intro d
  induction d with
  | zero =>
    intro a n p s hn n0 n1 ha h0 h1
    obtain ⟨b, p1, s1, e1, q0, q1⟩ := one_ok c hc hl p s 30 h0 (by omega) (by omega) (by omega)
    cases b with
    | true =>
      obtain ⟨r, e2, h2⟩ := dsoT_ok 13 a 0 (by omega) (by omega) (by omega)
      exact ⟨r, Ev.step (fun k => by simp only [spec_DrawSetOf.l0]; rw [if_neg (by omega), e1, Option.bind_some, if_pos rfl]) e2, h2⟩
    | false => exact ⟨a, Ev.step (f := fun _ => some a) (fun k => by simp only [spec_DrawSetOf.l0]; rw [if_neg (by omega), e1, Option.bind_some, if_neg (by simp)]) (Ev.now _), by omega⟩
  | succ d ih =>
    intro a n p s hn n0 n1 ha h0 h1
    by_cases hz : n > 0
    · obtain ⟨v, p1, s1, e1, _, q0, q1⟩ := among_ok c hc hl p s [97, 98, 99, 100, 101, 48, 57, 12354, 0, 1114111] h0 (by omega) (by simp) (by simp)
      obtain ⟨r, e2, h2⟩ := ih (a ++ [v]) (n - 1) p1 s1 (by omega) (by omega) (by omega) (by simp; omega) q0 (by omega)
      refine ⟨r, Ev.step (fun k => ?_) e2, h2⟩
      simp only [spec_DrawSetOf.l0]
      rw [if_pos hz]
      show (spec_l1Cur_among.f c p s [97, 98, 99, 100, 101, 48, 57, 12354, 0, 1114111]).bind _ = _
      rw [e1, Option.bind_some, if_pos (by omega), wr (n - 1) (by omega) (by omega)]
    · exact ih a n p s (by omega) n0 n1 (by omega) h0 (by omega)
theorem drawSetOf_ok (c : List Int) (hc : ∀ x ∈ c, 0 ≤ x ∧ x ≤ 255) (hl : c.length ≤ 1099511627776) : ∃ r, Ev (fun k => spec_DrawSetOf.f k c) r ∧ r.length ≤ 100 := by
  obtain ⟨v, p1, s1, e1, v0, v1, q0, q1⟩ := pick_ok c hc hl 0 0 8 (by omega) (by omega) (by omega) (by omega)
  obtain ⟨r, e2, h2⟩ := dso_ok c hc hl 10 [] v p1 s1 (by omega) v0 (by omega) (by simp) q0 (by omega)
  exact ⟨r, Ev.congr (fun k => by unfold spec_DrawSetOf.f; rw [e1, Option.bind_some]) e2, h2⟩
theorem drawFold_ok (c : List Int) (hc : ∀ x ∈ c, 0 ≤ x ∧ x ≤ 255) (hl : c.length ≤ 1099511627776) : ∃ r, Ev (fun k => spec_DrawFoldSet.f k c) r ∧ r.length ≤ 100 := by
  obtain ⟨r, e, h⟩ := drawGood_ok c hc hl
  exact ⟨r, by unfold spec_DrawFoldSet.f; exact Ev.bind e (Ev.now _), h⟩
theorem drawFoldRune_ok (c : List Int) (hc : ∀ x ∈ c, 0 ≤ x ∧ x ≤ 255) (hl : c.length ≤ 1099511627776) : ∃ r, spec_DrawFoldRune.f c = some r := by
  obtain ⟨v, p1, s1, e1, _, _, _⟩ := among_ok c hc hl 0 0 [64, 65, 90, 91, 97, 122, -1, 55296, 1114111, 12354] (by omega) (by omega) (by simp) (by simp)
  refine ⟨v, ?_⟩
  unfold spec_DrawFoldRune.f
  show (spec_l1Cur_among.f c 0 0 [64, 65, 90, 91, 97, 122, -1, 55296, 1114111, 12354]).bind _ = _
  rw [e1]
  rfl
theorem foldM_iff (l : List Int) (n : Int) : ∀ (d : Nat) (c : Int), foldM l n d c = true ↔ ∃ i, c ≤ i ∧ i < c + d ∧ hasF l i = true ∧ (n = i ∨ n = i + 32) := by
  intro d
  induction d with
  | zero => intro c; exact ⟨fun h => (by cases h), fun ⟨i, h1, h2, _⟩ => absurd h2 (by omega)⟩
  | succ d ih =>
    intro c
    rw [foldM, Bool.or_eq_true, Bool.and_eq_true, Bool.or_eq_true, inB_iff, inB_iff, ih]
    constructor
    · rintro (⟨h1, h2⟩ | ⟨i, h1, h2, h3, h4⟩)
      · exact ⟨c, by omega, by omega, h1, by omega⟩
      · exact ⟨i, by omega, by omega, h3, h4⟩
    · rintro ⟨i, h1, h2, h3, h4⟩
      by_cases e : i = c
      · subst e
        exact Or.inl ⟨h3, by omega⟩
      · exact Or.inr ⟨i, by omega, by omega, h3, h4⟩
theorem fold_at (l : List Int) (hg : Good 0 l = true) (c : Int) (h0 : 65 ≤ c) (h1 : c ≤ 90) : memV c (foldTo l 26 65 l) = hasF l c ∧ memV (c + 32) (foldTo l 26 65 l) = hasF l c := by
  obtain ⟨_, g2, _⟩ := foldTo_ok l 26 65 l (by omega) (by omega) hg
  rw [g2, g2]
  constructor
  · rw [Bool.eq_iff_iff, Bool.or_eq_true, foldM_iff]
    constructor
    · rintro (h | ⟨i, q1, q2, q3, q4⟩)
      · unfold hasF; rw [h]; rfl
      · have : i = c := by omega
        subst this
        exact q3
    · intro h
      exact Or.inr ⟨c, by omega, by omega, h, Or.inl rfl⟩
  · rw [Bool.eq_iff_iff, Bool.or_eq_true, foldM_iff]
    constructor
    · rintro (h | ⟨i, q1, q2, q3, q4⟩)
      · unfold hasF; rw [h, Bool.or_true]
      · have : i = c := by omega
        subst this
        exact q3
    · intro h
      exact Or.inr ⟨c, by omega, by omega, h, Or.inr rfl⟩
theorem fold_fold (l : List Int) (hg : Good 0 l = true) : foldTo (foldTo l 26 65 l) 26 65 (foldTo l 26 65 l) = foldTo l 26 65 l := by
  obtain ⟨g1, g2, g3⟩ := foldTo_ok l 26 65 l (by omega) (by omega) hg
  obtain ⟨f1, f2, f3⟩ := foldTo_ok (foldTo l 26 65 l) 26 65 (foldTo l 26 65 l) (by omega) (by omega) g1
  refine good_ext _ _ 0 0 f1 g1 fun n => ?_
  rw [f2]
  cases e : memV n (foldTo l 26 65 l) with
  | true => rfl
  | false =>
    rw [Bool.false_or]
    cases e2 : foldM (foldTo l 26 65 l) n 26 65 with
    | false => rfl
    | true =>
      obtain ⟨i, q1, q2, q3, q4⟩ := (foldM_iff _ _ _ _).1 e2
      obtain ⟨a1, a2⟩ := fold_at l hg i q1 (by omega)
      have hh : hasF l i = true := by
        unfold hasF at q3
        rw [a1, a2, Bool.or_self] at q3
        exact q3
      rcases q4 with rfl | rfl
      · rw [a1, hh] at e; cases e
      · rw [a2, hh] at e; cases e
theorem made_true (l : List Int) (h : (made l).2 = true) : made l = (l, true) ∧ GoodS l = true := by
  unfold made at h ⊢
  cases hg : GoodS l with
  | false => rw [hg] at h; simp at h
  | true => simp
theorem isR_range' (r : Int) (h : isR r = true) : 0 ≤ r ∧ r ≤ 1114111 := by
  simp only [isR, Bool.and_eq_true, inB_iff] at h
  exact h.1
theorem isR_small (c : Int) (h0 : 0 ≤ c) (h1 : c ≤ 1000) : isR c = true := by
  unfold isR
  rw [(inB_iff 0 1114111 c).2 (by omega), inB_false (by omega)]
  rfl
def foldRuneR (a : Int) : Int × Bool := if isR a = true then (if 65 ≤ a ∧ a ≤ 90 then (a + 32, true) else (a, true)) else (0, false)
theorem foldRune_s (a : Int) : spec_FoldRune.f a = some (foldRuneR a) := by
  unfold spec_FoldRune.f spec_l4Fold.f foldRuneR
  rw [gr_s, in_s, Option.bind_some, Option.bind_some]
  cases h : isR a with
  | false => simp
  | true =>
    have hb := (isR_range' a h)
    by_cases h2 : (65 : Int) ≤ a ∧ a ≤ 90
    · rw [(inB_iff 65 90 a).2 h2, if_pos rfl, if_pos rfl, if_pos h2, Option.bind_some, wr (a + 32) (by omega) (by omega)]
      rfl
    · rw [inB_false h2, if_pos rfl, if_neg (by simp), if_neg h2, Option.bind_some]
      rfl
theorem foldRune_i (a : Int) : impl_FoldRune.f a = some (foldRuneR a) := by
  unfold impl_FoldRune.f foldRuneR
  rw [gr_i, in_i, Option.bind_some, Option.bind_some]
  cases h : isR a with
  | false => simp
  | true =>
    have hb := (isR_range' a h)
    by_cases h2 : (65 : Int) ≤ a ∧ a ≤ 90
    · rw [(inB_iff 65 90 a).2 h2, if_pos rfl, if_pos rfl, if_pos rfl, if_pos h2, wr (a + 97) (by omega) (by omega), wr (a + 97 - 65) (by omega) (by omega), show a + 97 - 65 = a + 32 from by omega]
    · rw [inB_false h2, if_pos rfl, if_neg (by simp), if_pos rfl, if_neg h2]
theorem FnFolded : laws_FnFolded.Pure := by
  intro c d hm1 hs1 hw1 hm2 hs2 hw2
  refine Ev.rounds (r := true) ?_
  unfold laws_FnFolded.f
  have hb1 := bytes_ok c hw1
  have hb2 := bytes_ok d hw2
  have big : ∃ t, laws_big.f c d = some t ∧ (t = false → c.length ≤ 1048576 ∧ d.length ≤ 1048576) := by
    unfold laws_big.f
    by_cases h : (c.length : Int) > 1048576
    · exact ⟨true, by rw [if_pos h], by simp⟩
    · refine ⟨decide ((d.length : Int) > wrap64 (1048576 - (c.length : Int))), by rw [if_neg h], fun h2 => ?_⟩
      rw [wr _ (by omega) (by omega)] at h2
      have := of_decide_eq_false h2
      omega
  obtain ⟨t, e0, ht⟩ := big
  rw [e0]
  cases t with
  | true => exact Ev.congr (fun k => by rw [Option.bind_some, if_pos rfl]) (Ev.now true)
  | false =>
    obtain ⟨hc, hd⟩ := ht rfl
    refine Ev.congr (fun k => by rw [Option.bind_some, if_neg (by simp)]) ?_
    obtain ⟨s, es, ls⟩ := drawFold_ok c hb1 (by omega)
    obtain ⟨l, el, ll⟩ := drawSetOf_ok d hb2 (by omega)
    obtain ⟨v, ev⟩ := drawFoldRune_ok d hb2 (by omega)
    have lset := setR_length l
    have l1 : ∀ (n j : Nat), j + n = l.length → Ev (fun k => laws_FnFolded.l1 k (setR l).1 (setR l).2 l (l.length : Int) (j : Int)) true := by
      intro n
      induction n with
      | zero =>
        intro j hj
        exact Ev.step (f := fun _ => some true) (fun k => by simp only [laws_FnFolded.l1]; rw [if_neg (by omega)]) (Ev.now _)
      | succ n ih =>
        intro j hj
        have hj' : j < l.length := by omega
        have e1 : wrap64 ((j : Int) + 1) = ((j + 1 : Nat) : Int) := by rw [wr _ (by omega) (by omega)]; omega
        refine Ev.step (fun k => by simp only [laws_FnFolded.l1]; rw [if_pos (by omega), if_pos (by omega), if_pos (by omega), rd_at l j hj', e1]) ?_
        refine Ev.bind (implInSet_ev (setR l).1 (l[j]'hj') (by omega)) ?_
        cases hok : (setR l).2 with
        | false =>
          have := ih (j + 1) (by omega)
          rw [hok] at this
          exact Ev.congr (fun k => by rw [if_neg (by simp)]) this
        | true =>
          have ha : (l.all isR && decide (l.length ≤ 1000)) = true := by
            unfold setR at hok
            cases h : l.all isR && decide (l.length ≤ 1000) with
            | false => rw [h] at hok; simp at hok
            | true => rfl
          have hsr : setR l = made (addAll [] l) := by unfold setR; rw [if_pos ha]
          rw [hsr] at hok
          obtain ⟨m1, m2⟩ := made_true _ hok
          simp only [Bool.and_eq_true, List.all_eq_true, decide_eq_true_eq] at ha
          have hx := ha.1 _ (List.getElem_mem hj')
          obtain ⟨_, g2, _⟩ := addAll_ok l [] rfl (fun x hx => isR_range' x (ha.1 x hx))
          have hin : inR (setR l).1 (l[j]'hj') = (true, true) := by
            rw [hsr, m1]
            unfold inR
            rw [if_pos m2, if_pos hx, g2]
            have : l.contains (l[j]'hj') = true := by rw [List.contains_iff_mem]; exact List.getElem_mem hj'
            rw [this, Bool.or_true]
          rw [hin]
          have := ih (j + 1) (by omega)
          rw [hsr, m1] at this
          rw [hsr, m1]
          exact Ev.congr (fun k => by rw [if_pos rfl, if_pos rfl, if_pos rfl]) this
    have j2 : Ev (fun k => laws_FnFolded.j2 k d) true := by
      have j3 : Ev (fun k => laws_FnFolded.j3 k l (setR l).1 (setR l).2 false) true := Ev.step (fun k => by simp only [laws_FnFolded.j3]; rw [if_neg (by simp)]; rfl) (l1 l.length 0 (by omega))
      refine Ev.step (fun k => by simp only [laws_FnFolded.j2]; rfl) ?_
      refine Ev.bind el (Ev.bind (setR_impl l (by omega)) (Ev.bind (setR_spec l (by omega)) ?_))
      rw [ev]
      refine Ev.congr (fun k => by rw [Option.bind_some, foldRune_i, foldRune_s, Option.bind_some, Option.bind_some, if_neg (by simp)]) (Ev.bind (same_ev _ (by omega)) ?_)
      exact Ev.congr (fun k => by rw [if_pos rfl, if_neg (by simp), bne_self_eq_false]) j3
    have lf := foldR_length s
    have j0 : Ev (fun k => laws_FnFolded.j0 k d s (foldR s).1 (foldR s).2 false) true := by
      refine Ev.step (fun k => by simp only [laws_FnFolded.j0]; rw [if_neg (by simp)]) ?_
      cases hok : (foldR s).2 with
      | false => exact Ev.congr (fun k => by rw [if_neg (by simp)]) j2
      | true =>
        have hgs : GoodS s = true := by
          unfold foldR at hok
          cases h : GoodS s with
          | false => rw [h] at hok; simp at hok
          | true => rfl
        have hfr : foldR s = made (foldTo s 26 65 s) := by unfold foldR; rw [if_pos hgs]
        rw [hfr] at hok
        obtain ⟨m1, m2⟩ := made_true _ hok
        have g := goodS_good s hgs
        have e1 : (foldR s).1 = foldTo s 26 65 s := by rw [hfr, m1]
        have e2 : foldR (foldTo s 26 65 s) = (foldTo s 26 65 s, true) := by
          unfold foldR
          rw [if_pos m2, fold_fold s g]
          exact m1
        have hlen : (foldTo s 26 65 s).length ≤ 24 := (goodS_facts _ m2).1
        rw [e1]
        have l0 : ∀ (n : Nat) (i : Int), i + n = 91 → 65 ≤ i → Ev (fun k => laws_FnFolded.l0 k d s (foldTo s 26 65 s) i) true := by
          intro n
          induction n with
          | zero =>
            intro i hi h0
            have ci := foldR_impl (foldTo s 26 65 s) (by omega)
            rw [e2] at ci
            refine Ev.step (fun k => by simp only [laws_FnFolded.l0]; rw [if_neg (by omega)]) (Ev.bind ci ?_)
            refine Ev.congr (fun k => by rw [if_pos rfl]) (Ev.bind (same_ev (foldTo s 26 65 s) (by omega)) ?_)
            exact Ev.congr (fun k => by rw [if_pos rfl]) j2
          | succ n ih =>
            intro i hi h0
            have w1 : wrap64 (i + 32) = i + 32 := wr _ (by omega) (by omega)
            have w2 : wrap64 (i + 1) = i + 1 := wr _ (by omega) (by omega)
            obtain ⟨a1, a2⟩ := fold_at s g i h0 (by omega)
            have r1 := isR_small i (by omega) (by omega)
            have r2 := isR_small (i + 32) (by omega) (by omega)
            have q1 : inR (foldTo s 26 65 s) i = (hasF s i, true) := by unfold inR; rw [if_pos m2, if_pos r1, a1]
            have q2 : inR (foldTo s 26 65 s) (i + 32) = (hasF s i, true) := by unfold inR; rw [if_pos m2, if_pos r2, a2]
            have q3 : inR s i = (memV i s, true) := by unfold inR; rw [if_pos hgs, if_pos r1]
            have q4 : inR s (i + 32) = (memV (i + 32) s, true) := by unfold inR; rw [if_pos hgs, if_pos r2]
            have c1 := implInSet_ev (foldTo s 26 65 s) i (by omega)
            have c2 := implInSet_ev (foldTo s 26 65 s) (i + 32) (by omega)
            have c3 := implInSet_ev s i (by omega)
            have c4 := implInSet_ev s (i + 32) (by omega)
            rw [q1] at c1
            rw [q2] at c2
            rw [q3] at c3
            rw [q4] at c4
            have ih' := ih (i + 1) (by omega) (by omega)
            refine Ev.step (fun k => by simp only [laws_FnFolded.l0]; rw [if_pos (by omega), w1, w2]) ?_
            refine Ev.bind c1 (Ev.bind c2 (Ev.bind c3 (Ev.bind c4 ?_)))
            unfold hasF
            cases memV i s <;> cases memV (i + 32) s <;> exact Ev.congr (fun k => by simp) ih'
        exact Ev.congr (fun k => by rw [if_pos rfl]) (l0 26 65 (by omega) (by omega))
    refine Ev.bind es (Ev.bind (foldR_impl s (by omega)) (Ev.bind (foldR_spec s (by omega)) ?_))
    refine Ev.congr (fun k => by rw [if_neg (by simp)]) (Ev.bind (same_ev _ (by omega)) ?_)
    exact j0

end Go.Proofs.Ythincjdobjccfaa.Pure
