/-
  For every input the law FnExactReText returns true; no condition.
-/
import Derived.Test.YtlmpeaelpchokaaHFnExactReTextx19
import Derived.Lib.DecodeN
namespace Go.Proofs.Ytlmpeaelpchokaa.Pure
open Go.RowKit Go.Proofs.Ytlmpeaelpchokaa.HFnExactReText Go.Proofs.YtlmpeaelpchokaaW.PrintWords Go.Proofs.YtlmpeaelpchokaaW.PrintLast
set_option linter.unusedSimpArgs false
set_option linter.unusedVariables false
theorem wr (i : Int) (h0 : -9223372036854775808 ≤ i) (h1 : i ≤ 9223372036854775807) : wrap64 i = i := by unfold wrap64; omega

theorem rd_nat (l : List Int) (j : Nat) : rd l (j : Int) = l.getD j 0 := by unfold rd; simp

theorem getD_at (l : List Int) (j : Nat) (h : j < l.length) : l.getD j 0 = l[j] := by simp [List.getD_eq_getElem?_getD, h]

theorem rd_at (l : List Int) (j : Nat) (h : j < l.length) : rd l (j : Int) = l[j] := by rw [rd_nat, getD_at l j h]

theorem drop_at (l : List Int) (j : Nat) (h : j < l.length) : l.drop j = l[j] :: l.drop (j + 1) := List.drop_eq_getElem_cons h

theorem toIntS_l (l : List Int) (hl : l.length ≤ 17592186044416) : ∀ (d j : Nat) (o : List Int), j + d = l.length → o.length = l.length → (∀ i, i < j → o.getD i 0 = l.getD i 0) → Ev (fun k => laws_toIntS.l0 k l o (j : Int)) l := by
  intro d
  induction d with
  | zero =>
    intro j o hj ho he
    refine Ev.step (f := fun _ => some l) (fun k => ?_) (Ev.now l)
    simp only [laws_toIntS.l0]
    rw [if_neg (by omega)]
    congr 1
    refine List.ext_getElem (by omega) fun i h1 h2 => ?_
    have := he i (by omega)
    rwa [getD_at o i h1, getD_at l i h2] at this
  | succ d ih =>
    intro j o hj ho he
    refine Ev.step (f := fun k => laws_toIntS.l0 k l (o.set j (l.getD j 0)) ((j + 1 : Nat) : Int)) (fun k => ?_) (ih (j + 1) _ (by omega) (by rw [List.length_set]; exact ho) fun i hi => ?_)
    · simp only [laws_toIntS.l0]
      rw [if_pos (by omega), if_pos (by omega), if_pos (by omega), wr _ (by omega) (by omega), rd_nat]
      simp
    · by_cases e : i = j
      · subst e
        rw [getD_at _ _ (by rw [List.length_set]; omega)]
        simp
      · rw [← he i (by omega)]
        simp [List.getD_eq_getElem?_getD, List.getElem?_set, Ne.symm e]

theorem toIntS_ev (l : List Int) (hl : l.length ≤ 17592186044416) : Ev (fun k => laws_toIntS.f k l) l := by
  refine Ev.congr (f := fun k => laws_toIntS.l0 k l (List.replicate l.length 0) ((0 : Nat) : Int)) (fun k => ?_) (toIntS_l l hl l.length 0 _ (by omega) (by simp) (fun i hi => by omega))
  unfold laws_toIntS.f
  rw [if_pos (by omega), if_pos (by omega)]
  simp

theorem eqIntS_l (a b : List Int) (hab : a.length = b.length) (hl : a.length ≤ 17592186044416) : ∀ (d j : Nat), j + d = a.length → a.take j = b.take j → Ev (fun k => laws_eqIntS.l0 k a b (j : Int)) (decide (a = b)) := by
  intro d
  induction d with
  | zero =>
    intro j hj ht
    refine Ev.step (f := fun _ => some (decide (a = b))) (fun k => ?_) (Ev.now _)
    simp only [laws_eqIntS.l0]
    rw [if_neg (by omega)]
    rw [List.take_of_length_le (by omega), List.take_of_length_le (by omega)] at ht
    simp [ht]
  | succ d ih =>
    intro j hj ht
    by_cases e : a[j]'(by omega) = b[j]'(by omega)
    · refine Ev.step (f := fun k => laws_eqIntS.l0 k a b ((j + 1 : Nat) : Int)) (fun k => ?_) (ih (j + 1) (by omega) ?_)
      · simp only [laws_eqIntS.l0]
        rw [if_pos (by omega), if_pos (by omega), if_pos (by omega), rd_at a j (by omega), rd_at b j (by omega), if_pos e, wr _ (by omega) (by omega)]
        simp
      · rw [List.take_succ_eq_append_getElem (by omega), List.take_succ_eq_append_getElem (by omega), ht, e]
    · refine Ev.step (f := fun _ => some (decide (a = b))) (fun k => ?_) (Ev.now _)
      simp only [laws_eqIntS.l0]
      rw [if_pos (by omega), if_pos (by omega), if_pos (by omega), rd_at a j (by omega), rd_at b j (by omega), if_neg e]
      have : ¬ a = b := fun h => e (by subst h; rfl)
      simp [this]

theorem eqIntS_ev (a b : List Int) (hl : a.length ≤ 17592186044416) : Ev (fun k => laws_eqIntS.f k a b) (decide (a = b)) := by
  by_cases h : a.length = b.length
  · refine Ev.congr (f := fun k => laws_eqIntS.l0 k a b ((0 : Nat) : Int)) (fun k => ?_) (eqIntS_l a b h hl a.length 0 (by omega) (by simp))
    unfold laws_eqIntS.f
    rw [if_pos (by omega)]
    simp
  · refine Ev.congr (f := fun _ => some (decide (a = b))) (fun k => ?_) (Ev.now _)
    unfold laws_eqIntS.f
    rw [if_neg (by omega)]
    have : ¬ a = b := fun e => h (by rw [e])
    simp [this]

/-- Within bounds. -/
def inB (lo hi n : Int) : Bool := decide (lo ≤ n ∧ n ≤ hi)
theorem inB_iff (lo hi n : Int) : inB lo hi n = true ↔ lo ≤ n ∧ n ≤ hi := by simp [inB]

theorem in_s (a b c : Int) : spec_l1In.f a b c = some (inB b c a) := by
  unfold spec_l1In.f inB
  by_cases h : a ≥ b
  · rw [if_pos h]; simp [show b ≤ a from h]
  · rw [if_neg h]; simp [show ¬ b ≤ a from h]

theorem in_i (a b c : Int) : impl_inRange.f a b c = some (inB b c a) := by
  unfold impl_inRange.f inB
  by_cases h : b ≤ a
  · rw [if_pos h]; simp [h]
  · rw [if_neg h]; simp [h]

def isR (a : Int) : Bool := inB 0 1114111 a && !inB 55296 57343 a
theorem gr_s (a : Int) : spec_GoodRune.f a = some (isR a) := by
  unfold spec_GoodRune.f isR
  rw [in_s, in_s]
  simp only [Option.bind_some]
  cases inB 0 1114111 a <;> simp

theorem gr_i (a : Int) : impl_GoodRune.f a = some (isR a) := by
  unfold impl_GoodRune.f isR
  rw [in_i, in_i]
  simp only [Option.bind_some]
  cases inB 0 1114111 a <;> simp

theorem specAllRunes_l (l : List Int) (hl : l.length ≤ 17592186044416) : ∀ (d j : Nat), j + d = l.length → Ev (fun k => spec_l1AllRunes.l0 k l l (l.length : Int) (j : Int)) ((l.drop j).all isR && decide (l.length ≤ 1000)) := by
  intro d
  induction d with
  | zero =>
    intro j hj
    refine Ev.step (f := fun _ => some ((l.drop j).all isR && decide (l.length ≤ 1000))) (fun k => ?_) (Ev.now _)
    simp only [spec_l1AllRunes.l0]
    rw [if_neg (by omega), List.drop_of_length_le (by omega)]
    simp
    omega
  | succ d ih =>
    intro j hj
    rw [drop_at l j (by omega), List.all_cons]
    cases e : isR (l[j]'(by omega)) with
    | true =>
      refine Ev.step (f := fun k => spec_l1AllRunes.l0 k l l (l.length : Int) ((j + 1 : Nat) : Int)) (fun k => ?_) (by simpa using ih (j + 1) (by omega))
      simp only [spec_l1AllRunes.l0]
      rw [if_pos (by omega), if_pos (by omega), if_pos (by omega), rd_at l j (by omega), gr_s, wr _ (by omega) (by omega), e]
      simp
    | false =>
      refine Ev.step (f := fun _ => some false) (fun k => ?_) (by simpa using Ev.now false)
      simp only [spec_l1AllRunes.l0]
      rw [if_pos (by omega), if_pos (by omega), if_pos (by omega), rd_at l j (by omega), gr_s, e]
      simp

theorem specAllRunes_ev (l : List Int) (hl : l.length ≤ 17592186044416) : Ev (fun k => spec_l1AllRunes.f k l) (l.all isR && decide (l.length ≤ 1000)) :=
  Ev.congr (fun k => by unfold spec_l1AllRunes.f; rfl) (by simpa using specAllRunes_l l hl l.length 0 (by omega))

theorem l1All_l (lo hi : Int) (l : List Int) (hl : l.length ≤ 17592186044416) : ∀ (d j : Nat), j + d = l.length → Ev (fun k => spec_l1All.l0 k lo hi l (l.length : Int) (j : Int)) ((l.drop j).all (inB lo hi)) := by
  intro d
  induction d with
  | zero =>
    intro j hj
    refine Ev.step (f := fun _ => some ((l.drop j).all (inB lo hi))) (fun k => ?_) (Ev.now _)
    simp only [spec_l1All.l0]
    rw [if_neg (by omega), List.drop_of_length_le (by omega)]
    rfl
  | succ d ih =>
    intro j hj
    cases e : inB lo hi (l[j]'(by omega)) with
    | true =>
      refine Ev.step (f := fun k => spec_l1All.l0 k lo hi l (l.length : Int) ((j + 1 : Nat) : Int)) (fun k => ?_) ?_
      · simp only [spec_l1All.l0]
        rw [if_pos (by omega), if_pos (by omega), if_pos (by omega), rd_at l j (by omega), in_s, wr _ (by omega) (by omega), e]
        simp
      · rw [drop_at l j (by omega), List.all_cons, e, Bool.true_and]
        exact ih (j + 1) (by omega)
    | false =>
      refine Ev.step (f := fun _ => some ((l.drop j).all (inB lo hi))) (fun k => ?_) (Ev.now _)
      simp only [spec_l1All.l0]
      rw [if_pos (by omega), if_pos (by omega), if_pos (by omega), rd_at l j (by omega), in_s, e, drop_at l j (by omega), List.all_cons, e]
      simp

theorem l1All_ev (l : List Int) (hl : l.length ≤ 17592186044416) (lo hi : Int) : Ev (fun k => spec_l1All.f k l lo hi) (l.all (inB lo hi)) :=
  Ev.congr (fun k => by unfold spec_l1All.f; rfl) (l1All_l lo hi l hl l.length 0 (by omega))

/-- A set: pairs, each rising, each two ahead of the last one. -/
def Good : Int → List Int → Bool
  | least, a :: b :: r => decide (least ≤ a) && decide (a ≤ b) && decide (b ≤ 1114111) && Good (b + 2) r
  | _, [] => true
  | _, [_] => false

theorem good_mono (l : List Int) : ∀ (a b : Int), a ≤ b → Good b l = true → Good a l = true := by
  intro a b h hg
  match l with
  | [] => rfl
  | [_] => simp [Good] at hg
  | x :: y :: r =>
    simp only [Good, Bool.and_eq_true, decide_eq_true_eq] at hg ⊢
    exact ⟨⟨⟨by omega, hg.1.1.2⟩, hg.1.2⟩, hg.2⟩

/-- A set, with at most twelve spans. -/
def GoodS (l : List Int) : Bool := Good 0 l && decide (l.length ≤ 24)

theorem good_even (l : List Int) : ∀ a, Good a l = true → l.length % 2 = 0 := by
  match l with
  | [] => intro a _; rfl
  | [_] => intro a h; simp [Good] at h
  | x :: y :: r =>
    intro a h
    simp only [Good, Bool.and_eq_true] at h
    have := good_even r _ h.2
    simp only [List.length_cons]
    omega
termination_by l.length

theorem good_all (l : List Int) : ∀ a, 0 ≤ a → Good a l = true → ∀ x ∈ l, 0 ≤ x ∧ x ≤ 1114111 := by
  match l with
  | [] => intro a _ _ x hx; cases hx
  | [_] => intro a _ h; simp [Good] at h
  | y :: z :: r =>
    intro a ha h x hx
    simp [Good] at h
    simp only [List.mem_cons] at hx
    rcases hx with rfl | rfl | hx
    · omega
    · omega
    · exact good_all r (z + 2) (by omega) h.2 x hx
termination_by l.length

def lst (l : List Int) (j : Nat) : Int := if j = 0 then 0 else l.getD (j - 1) 0 + 2

theorem specSet_l (l : List Int) (hl : l.length ≤ 17592186044416) (hr : ∀ x ∈ l, 0 ≤ x ∧ x ≤ 1114111) : ∀ (d j : Nat), j + 2 * d = l.length → Ev (fun k => spec_GoodSet.l0 k l (j : Int)) (Good (lst l j) (l.drop j)) := by
  intro d
  induction d with
  | zero =>
    intro j hj
    refine Ev.step (f := fun _ => some (Good (lst l j) (l.drop j))) (fun k => ?_) (Ev.now _)
    simp only [spec_GoodSet.l0]
    rw [if_neg (by omega), List.drop_of_length_le (by omega)]
    rfl
  | succ d ih =>
    intro j hj
    have ha : 0 ≤ l[j]'(by omega) ∧ l[j]'(by omega) ≤ 1114111 := hr _ (List.getElem_mem _)
    have hb : 0 ≤ l[j + 1]'(by omega) ∧ l[j + 1]'(by omega) ≤ 1114111 := hr _ (List.getElem_mem _)
    have e1 : wrap64 ((j : Int) + 1) = ((j + 1 : Nat) : Int) := by rw [wr _ (by omega) (by omega)]; omega
    have e2 : wrap64 ((j : Int) + 2) = ((j + 2 : Nat) : Int) := by rw [wr _ (by omega) (by omega)]; omega
    have hd : l.drop j = l[j]'(by omega) :: l[j + 1]'(by omega) :: l.drop (j + 2) := by rw [drop_at l j (by omega), drop_at l (j + 1) (by omega)]
    have hn : lst l (j + 2) = l[j + 1]'(by omega) + 2 := by
      unfold lst
      rw [if_neg (by omega), show j + 2 - 1 = j + 1 from by omega, getD_at l (j + 1) (by omega)]
    have ih' := ih (j + 2) (by omega)
    rw [hn] at ih'
    have hg : Good (lst l j) (l.drop j) = (decide (lst l j ≤ l[j]'(by omega)) && decide (l[j]'(by omega) ≤ l[j + 1]'(by omega)) && decide (l[j + 1]'(by omega) ≤ 1114111) && Good (l[j + 1]'(by omega) + 2) (l.drop (j + 2))) := by
      rw [hd, Good]
    rw [hg]
    by_cases h1 : l[j]'(by omega) > l[j + 1]'(by omega)
    · refine Ev.step (f := fun _ => some false) (fun k => ?_) ?_
      · simp only [spec_GoodSet.l0]
        rw [e1, if_pos (by omega), if_pos (by omega), if_pos (by omega), if_pos (by omega), rd_at l j (by omega), rd_at l (j + 1) (by omega), if_pos h1]
      · rw [show decide (l[j]'(by omega) ≤ l[j + 1]'(by omega)) = false from decide_eq_false (by omega)]
        simpa using Ev.now false
    · rw [show decide (l[j]'(by omega) ≤ l[j + 1]'(by omega)) = true from decide_eq_true (by omega), show decide (l[j + 1]'(by omega) ≤ 1114111) = true from decide_eq_true (by omega)]
      by_cases h0 : j = 0
      · subst h0
        rw [show decide (lst l 0 ≤ l[0]'(by omega)) = true from decide_eq_true (by unfold lst; simp; omega)]
        refine Ev.step (f := fun k => spec_GoodSet.l0 k l ((0 + 2 : Nat) : Int)) (fun k => ?_) (by simpa using ih')
        simp only [spec_GoodSet.l0]
        rw [e1, if_pos (by omega), if_pos (by omega), if_pos (by omega), if_pos (by omega), rd_at l 0 (by omega), rd_at l (0 + 1) (by omega), if_neg h1, if_neg (by omega), e2]
      · have e3 : wrap64 ((j : Int) - 1) = ((j - 1 : Nat) : Int) := by rw [wr _ (by omega) (by omega)]; omega
        have hp : 0 ≤ l[j - 1]'(by omega) ∧ l[j - 1]'(by omega) ≤ 1114111 := hr _ (List.getElem_mem _)
        have hs : lst l j = l[j - 1]'(by omega) + 2 := by unfold lst; rw [if_neg h0, getD_at l (j - 1) (by omega)]
        rw [hs]
        by_cases h2 : l[j]'(by omega) < l[j - 1]'(by omega) + 2
        · refine Ev.step (f := fun _ => some false) (fun k => ?_) ?_
          · simp only [spec_GoodSet.l0]
            rw [e1, if_pos (by omega), if_pos (by omega), if_pos (by omega), if_pos (by omega), rd_at l j (by omega), rd_at l (j + 1) (by omega), if_neg h1, if_pos (by omega), e3, if_pos (by omega), if_pos (by omega), rd_at l (j - 1) (by omega), wr (l[j - 1]'(by omega) + 2) (by omega) (by omega), if_pos h2]
          · rw [show decide (l[j - 1]'(by omega) + 2 ≤ l[j]'(by omega)) = false from decide_eq_false (by omega)]
            simpa using Ev.now false
        · refine Ev.step (f := fun k => spec_GoodSet.l0 k l ((j + 2 : Nat) : Int)) (fun k => ?_) ?_
          · simp only [spec_GoodSet.l0]
            rw [e1, if_pos (by omega), if_pos (by omega), if_pos (by omega), if_pos (by omega), rd_at l j (by omega), rd_at l (j + 1) (by omega), if_neg h1, if_pos (by omega), e3, if_pos (by omega), if_pos (by omega), rd_at l (j - 1) (by omega), wr (l[j - 1]'(by omega) + 2) (by omega) (by omega), if_neg h2, e2]
          · rw [show decide (l[j - 1]'(by omega) + 2 ≤ l[j]'(by omega)) = true from decide_eq_true (by omega)]
            simpa using ih'

theorem goodS_bad (l : List Int) (h : ¬ (l.length % 2 = 0 ∧ l.length ≤ 24 ∧ l.all (inB 0 1114111) = true)) : GoodS l = false := by
  cases hg : GoodS l with
  | false => rfl
  | true =>
    unfold GoodS at hg
    rw [Bool.and_eq_true, decide_eq_true_eq] at hg
    refine absurd ⟨good_even l 0 hg.1, hg.2, ?_⟩ h
    rw [List.all_eq_true]
    intro x hx
    exact (inB_iff _ _ _).2 (good_all l 0 (by omega) hg.1 x hx)

theorem specSet_ev (l : List Int) (hl : l.length ≤ 17592186044416) : Ev (fun k => spec_GoodSet.f k l) (GoodS l) := by
  have jt : Ev (fun k => spec_GoodSet.j0 k l true) false := Ev.step (f := fun _ => some false) (fun k => by simp [spec_GoodSet.j0]) (Ev.now _)
  unfold spec_GoodSet.f
  by_cases h1 : l.length % 2 = 1
  · rw [goodS_bad l (by omega)]
    exact Ev.congr (fun k => by rw [if_pos (by omega)]) jt
  · by_cases h2 : l.length ≤ 24
    · refine Ev.congr (f := fun k => (spec_l1All.f k l 0 1114111).bind fun t => spec_GoodSet.j0 k l (!t)) (fun k => by rw [if_neg (by omega), if_neg (by omega)]) ?_
      refine Ev.bind (l1All_ev l hl 0 1114111) ?_
      cases ha : l.all (inB 0 1114111) with
      | false =>
        rw [goodS_bad l (by rw [ha]; simp)]
        exact jt
      | true =>
        refine Ev.step (f := fun k => spec_GoodSet.l0 k l ((0 : Nat) : Int)) (fun k => by simp [spec_GoodSet.j0]) ?_
        have := specSet_l l hl (fun x hx => (inB_iff _ _ _).1 (List.all_eq_true.1 ha x hx)) (l.length / 2) 0 (by omega)
        have e : GoodS l = Good (lst l 0) (l.drop 0) := by unfold GoodS lst; simp [h2]
        rw [e]
        exact this
    · rw [goodS_bad l (by omega)]
      exact Ev.congr (fun k => by rw [if_neg (by omega), if_pos (by omega)]) jt

/-- As the program asks it: number by number. -/
def GA : Bool → Int → List Int → Bool
  | _, _, [] => true
  | p, least, n :: r => inB least 1114111 n && GA (!p) (if p = true then n else n + 2) r

theorem ga_good (l : List Int) : ∀ a, l.length % 2 = 0 → GA true a l = Good a l := by
  match l with
  | [] => intro a _; rfl
  | [_] => intro a h; simp at h
  | x :: y :: r =>
    intro a h
    have ih := ga_good r (y + 2) (by simp only [List.length_cons] at h; omega)
    simp only [GA, Good, Bool.not_true, if_true, Bool.not_false, Bool.false_eq_true, if_false, ih]
    rw [Bool.eq_iff_iff]
    simp only [Bool.and_eq_true, inB_iff, decide_eq_true_eq]
    refine ⟨fun ⟨⟨h1, h2⟩, h3, h4⟩ => ⟨⟨⟨h1, h3.1⟩, h3.2⟩, h4⟩, fun ⟨⟨⟨h1, h2⟩, h3⟩, h4⟩ => ⟨⟨h1, by omega⟩, ⟨h2, h3⟩, h4⟩⟩
termination_by l.length

def lsi (l : List Int) (j : Nat) : Int := if j = 0 then 0 else if j % 2 = 0 then l.getD (j - 1) 0 + 2 else l.getD (j - 1) 0

theorem implSet_l (l : List Int) (hl : l.length ≤ 17592186044416) : ∀ (d j : Nat), j + d = l.length → (j ≠ 0 → l.getD (j - 1) 0 ≤ 1114111) → (j ≠ 0 → 0 ≤ l.getD (j - 1) 0) →
    Ev (fun k => impl_GoodSet.l0 k l l (l.length : Int) (j : Int)) (GA (j % 2 == 0) (lsi l j) (l.drop j) && decide (l.length % 2 = 0 ∧ l.length ≤ 24)) := by
  intro d
  induction d with
  | zero =>
    intro j hj _ _
    refine Ev.step (f := fun _ => some (GA (j % 2 == 0) (lsi l j) (l.drop j) && decide (l.length % 2 = 0 ∧ l.length ≤ 24))) (fun k => ?_) (Ev.now _)
    simp only [impl_GoodSet.l0]
    rw [if_neg (by omega), List.drop_of_length_le (by omega)]
    simp only [GA, Bool.true_and]
    by_cases h : l.length % 2 = 0
    · rw [if_pos (by omega)]
      simp [h]
      omega
    · rw [if_neg (by omega)]
      simp [h]
  | succ d ih =>
    intro j hj hp0 hp1
    have e1 : wrap64 ((j : Int) + 1) = ((j + 1 : Nat) : Int) := by rw [wr _ (by omega) (by omega)]; omega
    rw [drop_at l j (by omega), GA]
    have fin : ∀ (g : Nat → Option Bool), (∀ k, g (k + 1) = (impl_inRange.f (l[j]'(by omega)) (lsi l j) 1114111).bind fun t => if t = true then impl_GoodSet.l0 k l l (l.length : Int) (wrap64 ((j : Int) + 1)) else some false) →
        Ev g ((inB (lsi l j) 1114111 (l[j]'(by omega)) && GA (!(j % 2 == 0)) (if (j % 2 == 0) = true then l[j]'(by omega) else l[j]'(by omega) + 2) (l.drop (j + 1))) && decide (l.length % 2 = 0 ∧ l.length ≤ 24)) := by
      intro g hg
      cases hi : inB (lsi l j) 1114111 (l[j]'(by omega)) with
      | false =>
        refine Ev.step (f := fun _ => some false) (fun k => ?_) (by simpa using Ev.now false)
        rw [hg, in_i, hi]
        simp
      | true =>
        have hb := (inB_iff _ _ _).1 hi
        have h0 : 0 ≤ lsi l j := by
          unfold lsi
          by_cases z : j = 0
          · rw [if_pos z]; omega
          · have := hp1 z
            rw [if_neg z]
            by_cases z2 : j % 2 = 0
            · rw [if_pos z2]; omega
            · rw [if_neg z2]; omega
        refine Ev.step (f := fun k => impl_GoodSet.l0 k l l (l.length : Int) ((j + 1 : Nat) : Int)) (fun k => ?_) ?_
        · rw [hg, in_i, hi, e1]
          simp
        · have hq : l.getD (j + 1 - 1) 0 = l[j]'(by omega) := by rw [show j + 1 - 1 = j from by omega, getD_at l j (by omega)]
          have := ih (j + 1) (by omega) (fun _ => by rw [hq]; omega) (fun _ => by rw [hq]; omega)
          have es : lsi l (j + 1) = if (j % 2 == 0) = true then l[j]'(by omega) else l[j]'(by omega) + 2 := by
            unfold lsi
            rw [if_neg (by omega), hq]
            by_cases z : j % 2 = 0
            · rw [if_neg (by omega), if_pos (by simpa using z)]
            · rw [if_pos (by omega), if_neg (by simpa using z)]
          have ep : ((j + 1) % 2 == 0) = !(j % 2 == 0) := by
            by_cases z : j % 2 = 0
            · have : ¬ (j + 1) % 2 = 0 := by omega
              simp [z, this]
            · have : (j + 1) % 2 = 0 := by omega
              simp [z, this]
          rw [es, ep] at this
          rw [Bool.true_and]
          exact this
    by_cases z : j = 0
    · subst z
      refine Ev.step (f := fun k => impl_GoodSet.j1 k l ((0 : Nat) : Int) (l[0]'(by omega)) 0 l (l.length : Int) ((0 : Nat) : Int) false) (fun k => ?_) (fin _ fun k => ?_)
      · simp only [impl_GoodSet.l0]
        rw [if_pos (by omega), if_pos (by omega), if_pos (by omega), if_neg (by omega), rd_at l 0 (by omega)]
      · simp only [impl_GoodSet.j1]
        rw [if_neg (by simp), if_neg (by omega)]
        rfl
    · have e3 : wrap64 ((j : Int) - 1) = ((j - 1 : Nat) : Int) := by rw [wr _ (by omega) (by omega)]; omega
      have q0 := hp0 z
      have q1 := hp1 z
      have et : ((Int.tmod (j : Int) 2) == 0) = (j % 2 == 0) := by
        rw [show (2 : Int) = ((2 : Nat) : Int) from rfl, ← Int.ofNat_tmod, Bool.eq_iff_iff]
        simp only [beq_iff_eq]
        omega
      refine Ev.step (f := fun k => impl_GoodSet.j1 k l (j : Int) (l[j]'(by omega)) 0 l (l.length : Int) (j : Int) (j % 2 == 0)) (fun k => ?_) (fin _ fun k => ?_)
      · simp only [impl_GoodSet.l0]
        rw [if_pos (by omega), if_pos (by omega), if_pos (by omega), if_pos (by omega), rd_at l j (by omega), et]
      · simp only [impl_GoodSet.j1]
        by_cases z2 : j % 2 = 0
        · rw [if_pos (by simpa using z2), e3, if_pos (by omega), if_pos (by omega), rd_nat, wr (l.getD (j - 1) 0 + 2) (by omega) (by omega)]
          unfold lsi
          rw [if_neg z, if_pos z2]
        · rw [if_neg (by simpa using z2), if_pos (by omega), e3, if_pos (by omega), if_pos (by omega), rd_nat]
          unfold lsi
          rw [if_neg z, if_neg z2]

theorem implSet_ev (l : List Int) (hl : l.length ≤ 17592186044416) : Ev (fun k => impl_GoodSet.f k l) (GoodS l) := by
  have h := implSet_l l hl l.length 0 (by omega) (fun h => absurd rfl h) (fun h => absurd rfl h)
  have e : GoodS l = (GA (0 % 2 == 0) (lsi l 0) (l.drop 0) && decide (l.length % 2 = 0 ∧ l.length ≤ 24)) := by
    by_cases hev : l.length % 2 = 0
    · show (Good 0 l && decide (l.length ≤ 24)) = (GA true 0 l && _)
      rw [ga_good l 0 hev]
      simp [hev]
    · rw [goodS_bad l (by omega)]
      simp [hev]
  rw [e]
  exact Ev.congr (fun k => by unfold impl_GoodSet.f; rfl) h

theorem goodS_facts (l : List Int) (h : GoodS l = true) : l.length ≤ 24 ∧ l.length % 2 = 0 ∧ ∀ x ∈ l, 0 ≤ x ∧ x ≤ 1114111 := by
  unfold GoodS at h
  rw [Bool.and_eq_true, decide_eq_true_eq] at h
  exact ⟨h.2, good_even l 0 h.1, good_all l 0 (by omega) h.1⟩

theorem rdS_L (l : List S48) (j : Nat) (h : j < l.length) : rd_T48 l (j : Int) = l[j] := by unfold rd_T48; simp [List.getD_eq_getElem?_getD, h]
theorem rdS_I (l : List S49) (j : Nat) (h : j < l.length) : rd_T49 l (j : Int) = l[j] := by unfold rd_T49; simp [List.getD_eq_getElem?_getD, h]
def toI (x : S48) : S49 := ⟨x.f0, x.f1⟩
/-- A pattern within bounds. -/
def SmallRe (l : List S48) : Prop := l.length ≤ 1048576 ∧ ∀ x ∈ l, x.f1.length ≤ 1048576
theorem szIntS_v (l : List Int) (b : Int) (h0 : 0 ≤ b) (h1 : b ≤ 1048576) (hl : l.length ≤ 9223372036854775807) : laws_szIntS.f l b = some (if b - (l.length : Int) < 0 then -1 else b - (l.length : Int)) := by
  unfold laws_szIntS.f
  rw [wr _ (by omega) (by omega)]
  split <;> rfl
theorem szRe_v (op : Int) (l : List Int) (b : Int) (h0 : 0 ≤ b) (h1 : b ≤ 1048576) (hl : l.length ≤ 9223372036854775807) : laws_szRe.f op l b = some (if b - (l.length : Int) < 0 then -1 else b - (l.length : Int)) := by
  unfold laws_szRe.f
  rw [szIntS_v l b h0 h1 hl, Option.bind_some]
  by_cases c : b - (l.length : Int) < 0
  · rw [if_pos c, if_pos (by omega)]
  · rw [if_neg c, if_neg c]
def szNodes : Int → List S48 → Int
  | b, [] => b
  | b, x :: t => if b - (x.f1.length : Int) < 0 then -1 else szNodes (b - (x.f1.length : Int)) t
theorem szNodes_ok (l : List S48) : ∀ b, 0 ≤ b → szNodes b l ≤ b ∧ (szNodes b l < 0 ∨ (∀ x ∈ l, (x.f1.length : Int) ≤ b)) := by
  induction l with
  | nil => intro b _; exact ⟨Int.le_refl _, Or.inr (fun r h => by cases h)⟩
  | cons x t ih =>
    intro b hb
    rw [szNodes]
    by_cases c : b - (x.f1.length : Int) < 0
    · rw [if_pos c]; exact ⟨by omega, Or.inl (by omega)⟩
    · rw [if_neg c]
      obtain ⟨h1, h2⟩ := ih (b - (x.f1.length : Int)) (by omega)
      refine ⟨by omega, h2.imp id fun h r hr => ?_⟩
      rcases List.mem_cons.1 hr with rfl | hr
      · omega
      · have := h r hr; omega
theorem szReS_l (l : List S48) (hl : l.length ≤ 1048576) (hr : ∀ x ∈ l, x.f1.length ≤ 9223372036854775807) : ∀ (d j : Nat) (b : Int), j + d = l.length → 0 ≤ b → b ≤ 1048576 → Ev (fun k => laws_szReS.l0 k l b (j : Int)) (szNodes b (l.drop j)) := by
  intro d
  induction d with
  | zero =>
    intro j b hj h0 h1
    refine Ev.step (f := fun _ => some b) (fun k => ?_) (by rw [List.drop_of_length_le (by omega)]; exact Ev.now _)
    simp only [laws_szReS.l0]
    rw [if_neg (by omega)]
  | succ d ih =>
    intro j b hj h0 h1
    have hj' : j < l.length := by omega
    rw [List.drop_eq_getElem_cons hj', szNodes]
    refine Ev.step (f := fun k => (laws_szRe.f (l[j]'hj').f0 (l[j]'hj').f1 b).bind fun t => if t < 0 then some (-1) else laws_szReS.l0 k l t ((j + 1 : Nat) : Int)) (fun k => ?_) ?_
    · simp only [laws_szReS.l0]
      rw [if_pos (by omega), if_pos (by omega), rdS_L l j hj', wr ((j : Int) + 1) (by omega) (by omega)]
      rfl
    · rw [szRe_v _ _ _ h0 h1 (hr _ (List.getElem_mem hj'))]
      refine Ev.bind (Ev.now _) ?_
      by_cases c : b - ((l[j]'hj').f1.length : Int) < 0
      · rw [if_pos c, if_pos c]
        exact Ev.congr (fun k => by rw [if_pos (by omega)]) (Ev.now _)
      · rw [if_neg c, if_neg c]
        exact Ev.congr (fun k => by rw [if_neg c]) (ih (j + 1) _ (by omega) (by omega) (by omega))
theorem szReS_ev (l : List S48) (hl : l.length ≤ 9223372036854775807) (hr : ∀ x ∈ l, x.f1.length ≤ 9223372036854775807) : ∃ v, Ev (fun k => laws_szReS.f k l 1048576) v ∧ (v < 0 ∨ SmallRe l) := by
  unfold laws_szReS.f
  rw [wr (1048576 - (l.length : Int)) (by omega) (by omega)]
  by_cases c : 1048576 - (l.length : Int) < 0
  · exact ⟨-1, Ev.congr (fun k => by rw [if_pos c]) (Ev.now _), Or.inl (by omega)⟩
  · obtain ⟨g1, g2⟩ := szNodes_ok l (1048576 - (l.length : Int)) (by omega)
    exact ⟨szNodes (1048576 - (l.length : Int)) l, Ev.congr (fun k => by rw [if_neg c]; rfl) (szReS_l l (by omega) hr l.length 0 _ (by omega) (by omega) (by omega)), g2.imp id fun h => ⟨by omega, fun r hr => by have := h r hr; omega⟩⟩

theorem toReS_l (l : List S48) (h : SmallRe l) : ∀ (d j : Nat) (o : List S49), j + d = l.length → o.length = l.length → (∀ i (hi : i < l.length), i < j → o[i]? = some (toI l[i])) → Ev (fun k => laws_toReS.l0 k l o (j : Int)) (l.map toI) := by
  obtain ⟨h1, h2⟩ := h
  intro d
  induction d with
  | zero =>
    intro j o hj ho he
    refine Ev.step (f := fun _ => some (l.map toI)) (fun k => ?_) (Ev.now _)
    simp only [laws_toReS.l0]
    rw [if_neg (by omega)]
    congr 1
    refine List.ext_getElem (by rw [List.length_map]; omega) fun i g1 g2 => ?_
    rw [List.length_map] at g2
    have := he i g2 (by omega)
    rw [List.getElem?_eq_getElem g1] at this
    rw [Option.some.inj this, List.getElem_map]
  | succ d ih =>
    intro j o hj ho he
    have hj' : j < l.length := by omega
    have e1 : wrap64 ((j : Int) + 1) = ((j + 1 : Nat) : Int) := by rw [wr _ (by omega) (by omega)]; omega
    have tr : Ev (fun k => laws_toRe.f k (l[j]'hj').f0 (l[j]'hj').f1) ((l[j]'hj').f0, (l[j]'hj').f1) := by
      unfold laws_toRe.f
      exact Ev.bind (toIntS_ev _ (by have := h2 _ (List.getElem_mem hj'); omega)) (Ev.now _)
    refine Ev.step (f := fun k => (laws_toRe.f k (l[j]'hj').f0 (l[j]'hj').f1).bind fun t => laws_toReS.l0 k l (o.set j ⟨t.1, t.2⟩) ((j + 1 : Nat) : Int)) (fun k => ?_) (Ev.bind tr (ih (j + 1) (o.set j (toI (l[j]'hj'))) (by omega) (by rw [List.length_set]; exact ho) fun i hi hlt => ?_))
    · simp only [laws_toReS.l0]
      rw [if_pos (by omega), if_pos (by omega), rdS_L l j hj', e1]
      congr 1
      funext t
      rw [if_pos (by omega)]
      simp
    · by_cases e : i = j
      · subst e
        rw [List.getElem?_set_self (by omega)]
      · rw [List.getElem?_set_ne (fun h => e h.symm)]
        exact he i hi (by omega)
theorem toReS_ev (l : List S48) (h : SmallRe l) : Ev (fun k => laws_toReS.f k l) (l.map toI) := by
  have h1 := h.1
  refine Ev.congr (f := fun k => laws_toReS.l0 k l (List.replicate l.length z49) ((0 : Nat) : Int)) (fun k => ?_) (toReS_l l h l.length 0 _ (by omega) (by simp) (fun i hi h => absurd h (by omega)))
  unfold laws_toReS.f
  rw [if_pos (by omega), if_pos (by omega)]
  simp
theorem eqReS_l (l : List S49) (h1 : l.length ≤ 1048576) (h2 : ∀ x ∈ l, x.f1.length ≤ 1048576) : ∀ (d j : Nat), j + d = l.length → Ev (fun k => laws_eqReS.l0 k l l (j : Int)) true := by
  intro d
  induction d with
  | zero =>
    intro j hj
    refine Ev.step (f := fun _ => some true) (fun k => ?_) (Ev.now _)
    simp only [laws_eqReS.l0]
    rw [if_neg (by omega)]
  | succ d ih =>
    intro j hj
    have hj' : j < l.length := by omega
    have er : Ev (fun k => laws_eqRe.f k (l[j]'hj').f0 (l[j]'hj').f1 (l[j]'hj').f0 (l[j]'hj').f1) true := by
      unfold laws_eqRe.f
      refine Ev.congr (fun k => by rw [if_pos rfl]) (Ev.bind (eqIntS_ev (l[j]'hj').f1 (l[j]'hj').f1 (by have := h2 _ (List.getElem_mem hj'); omega)) ?_)
      exact Ev.congr (fun k => by rw [if_pos (by simp)]) (Ev.now _)
    refine Ev.step (f := fun k => (laws_eqRe.f k (l[j]'hj').f0 (l[j]'hj').f1 (l[j]'hj').f0 (l[j]'hj').f1).bind fun t => if t = true then laws_eqReS.l0 k l l ((j + 1 : Nat) : Int) else some false) (fun k => ?_) (Ev.bind er (Ev.congr (fun k => by rw [if_pos rfl]) (ih (j + 1) (by omega))))
    simp only [laws_eqReS.l0]
    rw [if_pos (by omega), if_pos (by omega), if_pos (by omega), rdS_I l j hj', wr ((j : Int) + 1) (by omega) (by omega)]
    rfl
theorem eqReS_ev (l : List S49) (h1 : l.length ≤ 1048576) (h2 : ∀ x ∈ l, x.f1.length ≤ 1048576) : Ev (fun k => laws_eqReS.f k l l) true :=
  Ev.congr (fun k => by unfold laws_eqReS.f; rw [if_pos rfl]; rfl) (eqReS_l l h1 h2 l.length 0 (by omega))
theorem small_map (l : List S48) (h : SmallRe l) : (l.map toI).length ≤ 1048576 ∧ ∀ x ∈ l.map toI, x.f1.length ≤ 1048576 := by
  refine ⟨by rw [List.length_map]; exact h.1, fun x hx => ?_⟩
  obtain ⟨y, hy, rfl⟩ := List.mem_map.1 hx
  exact h.2 y hy
/-- How many parts an op has. -/
def arV (a : Int) : Int := if a = 1 then 0 else if a = 2 then 0 else if a = 6 then 1 else if a = 7 then 1 else if a = 3 then 2 else if a = 4 then 2 else if a = 5 then 2 else -1
theorem arV_cases (a : Int) : arV a = 0 ∨ arV a = 1 ∨ arV a = 2 ∨ arV a = -1 := by
  unfold arV
  repeat' split
  all_goals simp
theorem specAr_ev (a : Int) : Ev (fun k => spec_l5Arity.f k a) (arV a) := by
  have j0t : Ev (fun k => spec_l5Arity.j0 k a true) 0 := Ev.step (f := fun _ => some 0) (fun k => by simp [spec_l5Arity.j0]) (Ev.now _)
  have j1t : Ev (fun k => spec_l5Arity.j1 k a true) 1 := Ev.step (f := fun _ => some 1) (fun k => by simp [spec_l5Arity.j1]) (Ev.now _)
  unfold spec_l5Arity.f arV
  by_cases h1 : a = 1
  · rw [if_pos h1]; exact Ev.congr (fun k => by rw [if_pos h1, show (a == 1) = true from by simpa using h1]) j0t
  rw [if_neg h1]
  by_cases h2 : a = 2
  · rw [if_pos h2]; exact Ev.congr (fun k => by rw [if_neg h1, show (a == 2) = true from by simpa using h2]) j0t
  rw [if_neg h2]
  refine Ev.congr (f := fun k => spec_l5Arity.j0 k a false) (fun k => by rw [if_neg h1, show (a == 2) = false from by simpa using h2]) ?_
  by_cases h6 : a = 6
  · rw [if_pos h6]
    exact Ev.step (fun k => by simp only [spec_l5Arity.j0]; rw [if_neg (by simp), if_pos h6, show (a == 6) = true from by simpa using h6]) j1t
  rw [if_neg h6]
  by_cases h7 : a = 7
  · rw [if_pos h7]
    exact Ev.step (fun k => by simp only [spec_l5Arity.j0]; rw [if_neg (by simp), if_neg h6, show (a == 7) = true from by simpa using h7]) j1t
  rw [if_neg h7]
  refine Ev.step (f := fun k => spec_l5Arity.j1 k a false) (fun k => by simp only [spec_l5Arity.j0]; rw [if_neg (by simp), if_neg h6, show (a == 7) = false from by simpa using h7]) ?_
  refine Ev.step (f := fun _ => some (if a = 3 then 2 else if a = 4 then 2 else if a = 5 then 2 else -1)) (fun k => ?_) (Ev.now _)
  simp only [spec_l5Arity.j1]
  rw [if_neg (by simp)]
  split
  · rfl
  · split
    · rfl
    · split <;> rfl
theorem implAr_ev (a : Int) : Ev (fun k => impl_partsOf.f k a) (arV a) := by
  have j0t : Ev (fun k => impl_partsOf.j0 k a true) 0 := Ev.step (f := fun _ => some 0) (fun k => by simp [impl_partsOf.j0]) (Ev.now _)
  have j1t : Ev (fun k => impl_partsOf.j1 k a true) 1 := Ev.step (f := fun _ => some 1) (fun k => by simp [impl_partsOf.j1]) (Ev.now _)
  unfold impl_partsOf.f arV
  by_cases h1 : a = 1
  · rw [if_pos h1]; exact Ev.congr (fun k => by rw [if_pos h1, show (a == 1) = true from by simpa using h1]) j0t
  rw [if_neg h1]
  by_cases h2 : a = 2
  · rw [if_pos h2]; exact Ev.congr (fun k => by rw [if_neg h1, show (a == 2) = true from by simpa using h2]) j0t
  rw [if_neg h2]
  refine Ev.congr (f := fun k => impl_partsOf.j0 k a false) (fun k => by rw [if_neg h1, show (a == 2) = false from by simpa using h2]) ?_
  by_cases h6 : a = 6
  · rw [if_pos h6]
    exact Ev.step (fun k => by simp only [impl_partsOf.j0]; rw [if_neg (by simp), if_pos h6, show (a == 6) = true from by simpa using h6]) j1t
  rw [if_neg h6]
  by_cases h7 : a = 7
  · rw [if_pos h7]
    exact Ev.step (fun k => by simp only [impl_partsOf.j0]; rw [if_neg (by simp), if_neg h6, show (a == 7) = true from by simpa using h7]) j1t
  rw [if_neg h7]
  refine Ev.step (f := fun k => impl_partsOf.j1 k a false) (fun k => by simp only [impl_partsOf.j0]; rw [if_neg (by simp), if_neg h6, show (a == 7) = false from by simpa using h7]) ?_
  refine Ev.step (f := fun _ => some (if a = 3 then 2 else if a = 4 then 2 else if a = 5 then 2 else -1)) (fun k => ?_) (Ev.now _)
  simp only [impl_partsOf.j1]
  rw [if_neg (by simp)]
  split
  · rfl
  · split
    · rfl
    · split <;> rfl

/-- A node's set is as it must be. -/
def setOk (x : S49) : Bool := GoodS x.f1 && (x.f1.all isR && (decide (x.f0 = 2) || decide (x.f1.length = 0)))
/-- The nodes stand as they must. -/
def stackV : Int → List S49 → Bool
  | c, [] => c == 1
  | c, x :: r => decide (0 ≤ arV x.f0) && (decide (arV x.f0 ≤ c) && stackV (c + 1 - arV x.f0) r)
def GoodRV (l : List S49) : Bool := decide (l.length ≤ 40) && (l.all setOk && stackV 0 l)

theorem node_ev (x : S49) (hl : x.f1.length ≤ 1048576) : Ev (fun k => spec_l5Node.f k x.f0 x.f1) (decide (0 ≤ arV x.f0) && setOk x) := by
  have q : ∀ g : Nat → Option Bool, (∀ k, g k = (spec_GoodSet.f k x.f1).bind fun t146 => if t146 = true then (spec_l1AllRunes.f k x.f1).bind fun t147 => some t147 else some false) → Ev g (GoodS x.f1 && x.f1.all isR) := by
    intro g hg
    refine Ev.congr hg (Ev.bind (specSet_ev x.f1 (by omega)) ?_)
    cases hs : GoodS x.f1 with
    | false => exact Ev.congr (fun k => by rw [if_neg (by simp)]) (by simpa using Ev.now false)
    | true =>
      have h24 := (goodS_facts x.f1 hs).1
      refine Ev.congr (fun k => by rw [if_pos rfl]) (Ev.bind (specAllRunes_ev x.f1 (by omega)) ?_)
      rw [show decide (x.f1.length ≤ 1000) = true from decide_eq_true (by omega), Bool.and_true, Bool.true_and]
      exact Ev.now _
  unfold spec_l5Node.f setOk
  refine Ev.bind (specAr_ev x.f0) ?_
  by_cases h0 : arV x.f0 < 0
  · rw [show decide (0 ≤ arV x.f0) = false from decide_eq_false (by omega), Bool.false_and]
    exact Ev.congr (fun k => by rw [if_pos h0]) (Ev.now _)
  · rw [show decide (0 ≤ arV x.f0) = true from decide_eq_true (by omega), Bool.true_and]
    by_cases h2 : x.f0 = 2
    · rw [decide_eq_true h2, Bool.true_or, Bool.and_true]
      exact q _ (fun k => by rw [if_neg h0, if_pos h2])
    · rw [decide_eq_false h2, Bool.false_or]
      by_cases h3 : x.f1.length = 0
      · rw [decide_eq_true h3, Bool.and_true]
        exact q _ (fun k => by rw [if_neg h0, if_neg h2, if_neg (by omega)])
      · rw [decide_eq_false h3, Bool.and_false, Bool.and_false]
        exact Ev.congr (fun k => by rw [if_neg h0, if_neg h2, if_pos (by omega)]) (Ev.now _)
theorem specGoodRe_l (l : List S49) (hl : l.length ≤ 1000) (hr : ∀ x ∈ l, x.f1.length ≤ 1048576) : ∀ (d j : Nat) (c : Int), j + d = l.length → 0 ≤ c → c ≤ j → Ev (fun k => spec_l5Good.l0 k c l (l.length : Int) (j : Int)) ((l.drop j).all setOk && stackV c (l.drop j)) := by
  intro d
  induction d with
  | zero =>
    intro j c hj h0 h1
    refine Ev.step (f := fun _ => some (c == 1)) (fun k => ?_) (by rw [List.drop_of_length_le (by omega)]; exact Ev.now _)
    simp only [spec_l5Good.l0]
    rw [if_neg (by omega)]
  | succ d ih =>
    intro j c hj h0 h1
    have hj' : j < l.length := by omega
    have hx := hr _ (List.getElem_mem hj')
    have e1 : wrap64 ((j : Int) + 1) = ((j + 1 : Nat) : Int) := by rw [wr _ (by omega) (by omega)]; omega
    rw [List.drop_eq_getElem_cons hj', List.all_cons, stackV]
    refine Ev.step (fun k => by simp only [spec_l5Good.l0]; rw [if_pos (by omega), if_pos (by omega), if_pos (by omega), rdS_I l j hj', e1]) ?_
    refine Ev.bind (node_ev (l[j]'hj') hx) ?_
    have hc := arV_cases (l[j]'hj').f0
    by_cases ha : 0 ≤ arV (l[j]'hj').f0
    · rw [decide_eq_true ha, Bool.true_and, Bool.true_and]
      cases setOk (l[j]'hj') with
      | false => exact Ev.congr (fun k => by rw [if_neg (by simp)]) (by simpa using Ev.now false)
      | true =>
        refine Ev.congr (fun k => by rw [if_pos rfl]) (Ev.bind (specAr_ev (l[j]'hj').f0) ?_)
        rw [Bool.true_and]
        by_cases hp : c < arV (l[j]'hj').f0
        · rw [show decide (arV (l[j]'hj').f0 ≤ c) = false from decide_eq_false (by omega), Bool.false_and, Bool.and_false]
          exact Ev.congr (fun k => by rw [if_pos hp]) (Ev.now _)
        · rw [show decide (arV (l[j]'hj').f0 ≤ c) = true from decide_eq_true (by omega), Bool.true_and]
          refine Ev.congr (fun k => by rw [if_neg hp]) (Ev.bind (specAr_ev (l[j]'hj').f0) ?_)
          have e2 : wrap64 (c + wrap64 (1 - arV (l[j]'hj').f0)) = c + 1 - arV (l[j]'hj').f0 := by rw [wr (1 - arV (l[j]'hj').f0) (by omega) (by omega), wr _ (by omega) (by omega)]; omega
          rw [e2]
          exact ih (j + 1) (c + 1 - arV (l[j]'hj').f0) (by omega) (by omega) (by omega)
    · rw [decide_eq_false ha, Bool.false_and, Bool.false_and, Bool.and_false]
      exact Ev.congr (fun k => by rw [if_neg (by simp)]) (Ev.now _)
theorem specGoodRe_ev (l : List S49) (hl : l.length ≤ 1048576) (hr : ∀ x ∈ l, x.f1.length ≤ 1048576) : Ev (fun k => spec_GoodRe.f k l) (GoodRV l) := by
  unfold spec_GoodRe.f GoodRV
  by_cases h : l.length ≤ 40
  · rw [decide_eq_true h, Bool.true_and]
    refine Ev.congr (fun k => by rw [if_pos (by omega)]) (Ev.bind (a := l.all setOk && stackV 0 l) ?_ (Ev.now _))
    unfold spec_l5Good.f
    simpa using specGoodRe_l l (by omega) hr l.length 0 0 (by omega) (by omega) (by omega)
  · rw [decide_eq_false h, Bool.false_and]
    exact Ev.congr (fun k => by rw [if_neg (by omega)]) (Ev.now _)

theorem clone_v (l : List Int) (h : l.length ≤ 1099511627776) : slices_Clone_int_int.f l = some l := by
  unfold slices_Clone_int_int.f
  rw [if_pos (by omega)]
theorem parts_l (l : List S49) (hl : l.length ≤ 1000) : ∀ (d j : Nat) (acc : List (List Int)) (pile : List Int), j + d = l.length → acc.length ≤ j → pile.length ≤ j → ∃ L, Ev (fun k => impl_parts.l0 k acc pile l (l.length : Int) (j : Int)) (L, stackV (pile.length : Int) (l.drop j)) := by
  intro d
  induction d with
  | zero =>
    intro j acc pile hj ha hp
    refine ⟨acc, Ev.step (f := fun _ => some (acc, (pile.length : Int) == 1)) (fun k => ?_) (by rw [List.drop_of_length_le (by omega)]; exact Ev.now _)⟩
    simp only [impl_parts.l0]
    rw [if_neg (by omega)]
  | succ d ih =>
    intro j acc pile hj hacc hp
    have hj' : j < l.length := by omega
    have e1 : wrap64 ((j : Int) + 1) = ((j + 1 : Nat) : Int) := by rw [wr _ (by omega) (by omega)]; omega
    rw [List.drop_eq_getElem_cons hj', stackV]
    have hc := arV_cases (l[j]'hj').f0
    have st : ∀ (g : Nat → Option (List (List Int) × Bool)) r, Ev g r → (∀ k, (if arV (l[j]'hj').f0 < 0 then some (([] : List (List Int)), false) else (if arV (l[j]'hj').f0 > (pile.length : Int) then some (([] : List (List Int)), false) else (if 0 ≤ (wrap64 ((pile.length : Int) - arV (l[j]'hj').f0)) then (if (wrap64 ((pile.length : Int) - arV (l[j]'hj').f0)) ≤ (pile.length : Int) then ((slices_Clone_int_int.f (pile.drop ((wrap64 ((pile.length : Int) - arV (l[j]'hj').f0)) : Int).toNat)).bind fun t180 => (if acc.length < 5864062014805 then ((some (pile.take ((wrap64 ((pile.length : Int) - arV (l[j]'hj').f0)) : Int).toNat : List Int)).bind fun y186 => (if y186.length < 17592186044416 then (impl_parts.l0 k (acc ++ [t180]) (y186 ++ [(j : Int)]) l (l.length : Int) ((j + 1 : Nat) : Int)) else (none))) else (none))) else (none)) else (none)))) = g k) → Ev (fun k => impl_parts.l0 k acc pile l (l.length : Int) (j : Int)) r := by
      intro g r hg he
      refine Ev.step (fun k => by simp only [impl_parts.l0]; rw [if_pos (by omega), if_pos (by omega), if_pos (by omega), rdS_I l j hj', e1]) ?_
      exact Ev.bind (implAr_ev (l[j]'hj').f0) (Ev.congr he hg)
    by_cases ha : 0 ≤ arV (l[j]'hj').f0
    · rw [decide_eq_true ha, Bool.true_and]
      by_cases hq : arV (l[j]'hj').f0 > (pile.length : Int)
      · refine ⟨[], st (fun _ => some ([], false)) _ ?_ (fun k => by rw [if_neg (by omega), if_pos hq])⟩
        rw [show decide (arV (l[j]'hj').f0 ≤ (pile.length : Int)) = false from decide_eq_false (by omega), Bool.false_and]
        exact Ev.now _
      · rw [show decide (arV (l[j]'hj').f0 ≤ (pile.length : Int)) = true from decide_eq_true (by omega), Bool.true_and]
        obtain ⟨n, hn⟩ : ∃ n : Nat, (pile.length : Int) - arV (l[j]'hj').f0 = (n : Int) := ⟨((pile.length : Int) - arV (l[j]'hj').f0).toNat, by omega⟩
        have e2 : wrap64 ((pile.length : Int) - arV (l[j]'hj').f0) = (n : Int) := by rw [hn, wr _ (by omega) (by omega)]
        have hz : (pile.drop n).length ≤ pile.length := by rw [List.length_drop]; omega
        have ht : (pile.take n).length = n := by rw [List.length_take]; omega
        obtain ⟨L, hL⟩ := ih (j + 1) (acc ++ [pile.drop n]) (pile.take n ++ [(j : Int)]) (by omega) (by simp; omega) (by rw [List.length_append, ht]; simp; omega)
        refine ⟨L, st (fun k => impl_parts.l0 k (acc ++ [pile.drop n]) (pile.take n ++ [(j : Int)]) l (l.length : Int) ((j + 1 : Nat) : Int)) _ ?_ (fun k => ?_)⟩
        · rw [List.length_append, ht] at hL
          rw [show (pile.length : Int) + 1 - arV (l[j]'hj').f0 = ((n + [(j : Int)].length : Nat) : Int) from by simp; omega]
          exact hL
        · rw [if_neg (by omega), if_neg hq, e2, if_pos (by omega), if_pos (by omega), Int.toNat_natCast, clone_v _ (by omega), Option.bind_some, if_pos (by omega), Option.bind_some, if_pos (by omega)]
    · refine ⟨[], st (fun _ => some ([], false)) _ ?_ (fun k => by rw [if_pos (by omega)])⟩
      rw [decide_eq_false ha, Bool.false_and]
      exact Ev.now _
theorem parts_ev (l : List S49) (hl : l.length ≤ 1000) : ∃ L, Ev (fun k => impl_parts.f k l) (L, stackV 0 l) := by
  obtain ⟨L, h⟩ := parts_l l hl l.length 0 [] [] (by omega) (by simp) (by simp)
  exact ⟨L, Ev.congr (fun k => by unfold impl_parts.f; rfl) (by simpa using h)⟩

theorem anyO_ev {α : Type} (f : Nat → α → Option Bool) (p : α → Bool) (l : List α) (h : ∀ x ∈ l, Ev (fun k => f k x) (p x)) : Ev (fun k => anyO (f k) l) (l.any p) := by
  have key : ∃ K, ∀ k, K ≤ k → ∀ x ∈ l, f k x = some (p x) := by
    induction l with
    | nil => exact ⟨0, fun k _ x hx => by cases hx⟩
    | cons y t ih =>
      obtain ⟨K1, h1⟩ := ih (fun x hx => h x (by simp [hx]))
      obtain ⟨K2, h2⟩ := h y (by simp)
      refine ⟨max K1 K2, fun k hk x hx => ?_⟩
      rcases List.mem_cons.1 hx with rfl | hx
      · exact h2 k (by omega)
      · exact h1 k (by omega) x hx
  obtain ⟨K, hK⟩ := key
  refine ⟨K, fun k hk => ?_⟩
  have hf := hK k hk
  show anyO (f k) l = some (l.any p)
  unfold anyO
  rw [if_pos (List.all_eq_true.2 fun x hx => by rw [hf x hx]; rfl)]
  congr 1
  rw [Bool.eq_iff_iff, List.any_eq_true, List.any_eq_true]
  exact ⟨fun ⟨x, hx, e⟩ => ⟨x, hx, by rw [hf x hx] at e; exact e⟩, fun ⟨x, hx, e⟩ => ⟨x, hx, by rw [hf x hx]; exact e⟩⟩
theorem badRune_isR (r : Int) : badRuneV r = !isR r := by
  unfold badRuneV goodRuneV isR inB
  rfl
theorem badRe_ev (x : S49) (hl : x.f1.length ≤ 1048576) : Ev (fun k => badReO k x) (!setOk x) := by
  unfold badReO
  refine Ev.bind (implSet_ev x.f1 (by omega)) ?_
  have e : (!GoodS x.f1 || (x.f1.any badRuneV || (decide (x.f0 ≠ 2) && decide ((x.f1.length : Int) > 0)))) = !setOk x := by
    unfold setOk
    have e1 : x.f1.any badRuneV = !x.f1.all isR := by
      rw [List.not_all_eq_any_not]
      exact congrArg x.f1.any (funext badRune_isR)
    have e2 : (decide (x.f0 ≠ 2) && decide ((x.f1.length : Int) > 0)) = !(decide (x.f0 = 2) || decide (x.f1.length = 0)) := by
      rw [Bool.not_or, Bool.eq_iff_iff]
      simp only [Bool.and_eq_true, decide_eq_true_eq, Bool.not_eq_true', decide_eq_false_iff_not]
      omega
    rw [e1, e2, Bool.not_and, Bool.not_and]
  rw [e]
  exact Ev.now _
theorem implGoodRe_ev (l : List S49) (hl : l.length ≤ 1048576) (hr : ∀ x ∈ l, x.f1.length ≤ 1048576) : Ev (fun k => impl_GoodRe.f k l) (GoodRV l) := by
  unfold impl_GoodRe.f GoodRV
  rw [in_i]
  refine Ev.bind (Ev.now _) ?_
  by_cases h : 1 ≤ (l.length : Int) ∧ (l.length : Int) ≤ 40
  · rw [(inB_iff 1 40 _).2 h, decide_eq_true (show l.length ≤ 40 by omega), Bool.true_and]
    refine Ev.congr (fun k => by rw [if_pos rfl]) (Ev.bind (anyO_ev (fun k x => badReO k x) (fun x => !setOk x) l (fun x hx => badRe_ev x (hr x hx))) ?_)
    rw [← List.not_all_eq_any_not]
    cases l.all setOk with
    | false => exact Ev.congr (fun k => by rw [if_pos (by simp)]) (by simpa using Ev.now false)
    | true =>
      obtain ⟨L, hL⟩ := parts_ev l (by omega)
      refine Ev.congr (fun k => by rw [if_neg (by simp)]) (Ev.bind hL ?_)
      rw [Bool.true_and]
      exact Ev.now _
  · rw [show inB 1 40 (l.length : Int) = false from by cases e : inB 1 40 (l.length : Int) with | false => rfl | true => exact absurd ((inB_iff _ _ _).1 e) h]
    refine Ev.congr (fun k => by rw [if_neg (by simp)]) ?_
    by_cases h0 : l.length ≤ 40
    · have : l = [] := List.eq_nil_of_length_eq_zero (by omega)
      subst this
      exact Ev.now _
    · rw [decide_eq_false h0, Bool.false_and]
      exact Ev.now _
theorem goodS_nil : GoodS [] = true := by first | rfl | decide | simp [GoodS]
/-- A pattern as a tree. -/
inductive Pt where
  | l (n : S49) : Pt
  | u (n : S49) (a : Pt) : Pt
  | b (n : S49) (x y : Pt) : Pt
namespace Pt
def flat : Pt → List S49
  | l n => [n]
  | u n a => a.flat ++ [n]
  | b n x y => x.flat ++ (y.flat ++ [n])
def ok : Pt → Prop
  | l n => arV n.f0 = 0
  | u n a => arV n.f0 = 1 ∧ a.ok
  | b n x y => arV n.f0 = 2 ∧ x.ok ∧ y.ok
theorem flat_pos : ∀ t : Pt, 0 < t.flat.length
  | l _ => by simp [flat]
  | u _ _ => by simp [flat]
  | b _ _ _ => by simp [flat]; omega
/-- The root's node. -/
def root : Pt → S49
  | l n => n
  | u n _ => n
  | b n _ _ => n
theorem flat_last : ∀ t : Pt, ∃ i, t.flat = i ++ [t.root]
  | l n => ⟨[], rfl⟩
  | u n a => ⟨a.flat, rfl⟩
  | b n x y => ⟨x.flat ++ y.flat, by simp [flat, root]⟩
end Pt
def flats : List Pt → List S49
  | [] => []
  | t :: st => flats st ++ t.flat
def oks (st : List Pt) : Prop := ∀ t ∈ st, t.ok
/-- What a stack of trees becomes by nodes. -/
def build : List S49 → List Pt → Option (List Pt)
  | [], st => some st
  | n :: p, st => if arV n.f0 = 0 then build p (.l n :: st) else if arV n.f0 = 1 then (match st with | a :: st => build p (.u n a :: st) | [] => none) else if arV n.f0 = 2 then (match st with | y :: x :: st => build p (.b n x y :: st) | _ => none) else none
theorem build_flat : ∀ (t : Pt), t.ok → ∀ p st, build (t.flat ++ p) st = build p (t :: st)
  | .l n, h, p, st => by
    simp only [Pt.ok] at h
    simp only [Pt.flat, List.cons_append, List.nil_append, build]
    rw [if_pos h]
  | .u n a, h, p, st => by
    obtain ⟨h1, h2⟩ := h
    simp only [Pt.flat, List.append_assoc]
    rw [build_flat a h2]
    simp only [List.cons_append, List.nil_append, build]
    rw [if_neg (by omega), if_pos h1]
  | .b n x y, h, p, st => by
    obtain ⟨h1, h2, h3⟩ := h
    simp only [Pt.flat, List.append_assoc]
    rw [build_flat x h2, build_flat y h3]
    simp only [List.cons_append, List.nil_append, build]
    rw [if_neg (by omega), if_neg (by omega), if_pos h1]
theorem build_inv : ∀ (p : List S49) (st st' : List Pt), oks st → build p st = some st' → oks st' ∧ flats st' = flats st ++ p
  | [], st, st', hk, h => by
    simp only [build, Option.some.injEq] at h
    subst h
    exact ⟨hk, by simp⟩
  | n :: p, st, st', hk, h => by
    simp only [build] at h
    split at h
    · rename_i h0
      obtain ⟨a, b⟩ := build_inv p _ _ (fun t ht => by rcases List.mem_cons.1 ht with rfl | ht; exact h0; exact hk t ht) h
      exact ⟨a, by rw [b]; simp [flats, Pt.flat]⟩
    · split at h
      · rename_i h1
        cases st with
        | nil => cases h
        | cons a st =>
          obtain ⟨q, r⟩ := build_inv p _ _ (fun t ht => by rcases List.mem_cons.1 ht with rfl | ht; exact ⟨h1, hk a (by simp)⟩; exact hk t (by simp [ht])) h
          exact ⟨q, by rw [r]; simp [flats, Pt.flat]⟩
      · split at h
        · rename_i h2
          match st, hk, h with
          | [], _, h => cases h
          | [_], _, h => cases h
          | y :: x :: st, hk, h =>
            obtain ⟨q, r⟩ := build_inv p _ _ (fun t ht => by rcases List.mem_cons.1 ht with rfl | ht; exact ⟨h2, hk x (by simp), hk y (by simp)⟩; exact hk t (by simp [ht])) h
            exact ⟨q, by rw [r]; simp [flats, Pt.flat]⟩
        · cases h
/-- A list of nodes whose count stays right is built. -/
theorem build_stack : ∀ (p : List S49) (st : List Pt), stackV (st.length : Int) p = true → ∃ t, build p st = some [t]
  | [], st, h => by
    simp only [stackV, decide_eq_true_eq] at h
    match st, h with
    | [t], _ => exact ⟨t, rfl⟩
    | [], h => simp at h
    | _ :: _ :: st, h => simp at h; omega
  | n :: p, st, h => by
    simp only [stackV, Bool.and_eq_true, decide_eq_true_eq] at h
    obtain ⟨h0, h1, h2⟩ := h
    simp only [build]
    split
    · rename_i e
      exact build_stack p _ (by rw [e] at h2; simpa using h2)
    · split
      · rename_i e
        match st, h1, h2 with
        | [], h1, _ => simp at h1; omega
        | a :: st, _, h2 => exact build_stack p _ (by rw [e] at h2; simpa using h2)
      · split
        · rename_i e
          match st, h1, h2 with
          | [], h1, _ => simp at h1; omega
          | [_], h1, _ => simp at h1; omega
          | y :: x :: st, _, h2 => exact build_stack p _ (by rw [e] at h2; simp only [List.length_cons] at h2 ⊢; rw [show (((st.length + 1 : Nat)) : Int) = ((st.length + 1 + 1 : Nat) : Int) + 1 - 2 from by omega]; exact h2)
        · rename_i e0 e1 e2
          exfalso
          unfold arV at h0 e0 e1 e2
          repeat' split at h0
          all_goals simp_all
theorem stack_flat : ∀ (t : Pt), t.ok → ∀ (p : List S49) (c : Int), 0 ≤ c → stackV c (t.flat ++ p) = stackV (c + 1) p
  | .l n, h, p, c, hc => by
    simp only [Pt.ok] at h
    simp only [Pt.flat, List.cons_append, List.nil_append, stackV]
    rw [h, decide_eq_true (by omega), decide_eq_true (by omega), Bool.true_and, Bool.true_and, show c + 1 - 0 = c + 1 from by omega]
  | .u n a, h, p, c, hc => by
    obtain ⟨h1, h2⟩ := h
    simp only [Pt.flat, List.append_assoc]
    rw [stack_flat a h2 _ c hc]
    simp only [List.cons_append, List.nil_append, stackV]
    rw [h1, decide_eq_true (by omega), decide_eq_true (by omega), Bool.true_and, Bool.true_and, show c + 1 + 1 - 1 = c + 1 from by omega]
  | .b n x y, h, p, c, hc => by
    obtain ⟨h1, h2, h3⟩ := h
    simp only [Pt.flat, List.append_assoc]
    rw [stack_flat x h2 _ c hc, stack_flat y h3 _ _ (by omega)]
    simp only [List.cons_append, List.nil_append, stackV]
    rw [h1, decide_eq_true (by omega), decide_eq_true (by omega), Bool.true_and, Bool.true_and, show c + 1 + 1 + 1 - 2 = c + 1 from by omega]
/-- A good list is one tree's. -/
theorem tree_of (p : List S49) (h : stackV 0 p = true) : ∃ t : Pt, t.ok ∧ p = t.flat := by
  obtain ⟨t, ht⟩ := build_stack p [] h
  obtain ⟨a, b⟩ := build_inv p [] [t] (fun _ h => by cases h) ht
  exact ⟨t, a t (by simp), by simpa [flats] using b.symm⟩
theorem stack_tree (t : Pt) (h : t.ok) : stackV 0 t.flat = true := by
  have := stack_flat t h [] 0 (by omega)
  rw [List.append_nil] at this
  rw [this]; simp [stackV]
theorem flat_inj {t t' : Pt} (h : t.ok) (h' : t'.ok) (e : t.flat = t'.flat) : t = t' := by
  have a := build_flat t h [] []
  have b := build_flat t' h' [] []
  rw [e] at a
  rw [a] at b
  simpa [build] using b
/-- A node without a set. -/
def nd (op : Int) : S49 := ⟨op, []⟩
theorem nd_ok (op : Int) : setOk (nd op) = true := by simp [setOk, nd, goodS_nil]
/-- Every node's set is as it must be. -/
def Pt.sets (t : Pt) : Prop := ∀ x ∈ t.flat, setOk x = true
theorem Pt.sets_l {n : S49} : (Pt.l n).sets ↔ setOk n = true := by simp [Pt.sets, Pt.flat]
theorem Pt.sets_u {n : S49} {a : Pt} : (Pt.u n a).sets ↔ a.sets ∧ setOk n = true := by
  simp only [Pt.sets, Pt.flat, List.mem_append, List.mem_singleton]
  exact ⟨fun h => ⟨fun x hx => h x (.inl hx), h n (.inr rfl)⟩, fun h x hx => hx.elim (h.1 x) (fun e => e ▸ h.2)⟩
theorem Pt.sets_b {n : S49} {a b : Pt} : (Pt.b n a b).sets ↔ a.sets ∧ b.sets ∧ setOk n = true := by
  simp only [Pt.sets, Pt.flat, List.mem_append, List.mem_singleton]
  exact ⟨fun h => ⟨fun x hx => h x (.inl hx), fun x hx => h x (.inr (.inl hx)), h n (.inr (.inr rfl))⟩, fun h x hx => hx.elim (h.1 x) (fun e => e.elim (h.2.1 x) (fun e => e ▸ h.2.2))⟩
/-- Good lists are the good trees'. -/
theorem good_tree {p : List S49} (h : GoodRV p = true) : ∃ t : Pt, t.ok ∧ t.sets ∧ p = t.flat ∧ p.length ≤ 40 := by
  simp only [GoodRV, Bool.and_eq_true, decide_eq_true_eq] at h
  obtain ⟨h1, h2, h3⟩ := h
  obtain ⟨t, a, b⟩ := tree_of p h3
  subst b
  exact ⟨t, a, fun x hx => List.all_eq_true.1 h2 x hx, rfl, h1⟩
theorem tree_good {t : Pt} (h1 : t.ok) (h2 : t.sets) : GoodRV t.flat = decide (t.flat.length ≤ 40) := by
  simp only [GoodRV]
  rw [List.all_eq_true.2 h2, stack_tree t h1]; simp
/-- A node that is no set's has none. -/
theorem set_none {n : S49} (h : setOk n = true) (h2 : n.f0 ≠ 2) : n.f1 = [] := by
  simp only [setOk, Bool.and_eq_true, Bool.or_eq_true, decide_eq_true_eq, List.length_eq_zero_iff] at h
  rcases h.2.2 with h | h
  · exact absurd h h2
  · exact h
theorem nd_eq {n : S49} (h : setOk n = true) (h2 : n.f0 ≠ 2) : n = nd n.f0 := by
  obtain ⟨a, b⟩ := n
  have := set_none h h2
  simp only at this
  subst this
  rfl
theorem ar_ne {a : Int} (h : arV a ≠ 0) : a ≠ 2 := by
  rintro rfl
  exact h (by simp [arV])
/-- The parts of each ReCat the other way round. -/
def Pt.rev : Pt → Pt
  | .l n => .l n
  | .u n a => .u (nd n.f0) a.rev
  | .b n x y => if n.f0 = 3 then .b (nd n.f0) y.rev x.rev else .b (nd n.f0) x.rev y.rev
theorem Pt.rev_ok : ∀ t : Pt, t.ok → t.rev.ok
  | .l _, h => h
  | .u _ a, h => ⟨h.1, a.rev_ok h.2⟩
  | .b n x y, h => by
    unfold Pt.rev
    split
    · exact ⟨h.1, y.rev_ok h.2.2, x.rev_ok h.2.1⟩
    · exact ⟨h.1, x.rev_ok h.2.1, y.rev_ok h.2.2⟩
theorem Pt.rev_sets : ∀ t : Pt, t.sets → t.rev.sets
  | .l _, h => h
  | .u _ a, h => Pt.sets_u.2 ⟨a.rev_sets (Pt.sets_u.1 h).1, nd_ok _⟩
  | .b n x y, h => by
    obtain ⟨h1, h2, _⟩ := Pt.sets_b.1 h
    unfold Pt.rev
    split
    · exact Pt.sets_b.2 ⟨y.rev_sets h2, x.rev_sets h1, nd_ok _⟩
    · exact Pt.sets_b.2 ⟨x.rev_sets h1, y.rev_sets h2, nd_ok _⟩
theorem Pt.rev_len : ∀ t : Pt, t.rev.flat.length = t.flat.length
  | .l _ => rfl
  | .u _ a => by simp [Pt.rev, Pt.flat, a.rev_len]
  | .b n x y => by
    unfold Pt.rev
    split <;> simp [Pt.flat, x.rev_len, y.rev_len] <;> omega
/-- Two nodes, two patterns are the same. -/
def sameN (x y : S49) : Bool := x.f0 == y.f0 && x.f1 == y.f1
def sameP : List S49 → List S49 → Bool
  | [], [] => true
  | x :: a, y :: b => sameN x y && sameP a b
  | _, _ => false
theorem sameN_eq {x y : S49} : sameN x y = true ↔ x = y := by
  obtain ⟨a, b⟩ := x
  obtain ⟨c, d⟩ := y
  simp [sameN]
theorem sameP_eq : ∀ {a b : List S49}, sameP a b = true ↔ a = b
  | [], [] => by simp [sameP]
  | x :: a, y :: b => by simp [sameP, sameN_eq, sameP_eq (a := a) (b := b)]
  | [], _ :: _ => by simp [sameP]
  | _ :: _, [] => by simp [sameP]
/-- A tree's nodes that are well set: a list of them. -/
def isTree (p : List S49) : Prop := ∃ t : Pt, t.ok ∧ t.sets ∧ p = t.flat
theorem isTree.pos {p : List S49} (h : isTree p) : 0 < p.length := by
  obtain ⟨t, _, _, rfl⟩ := h
  exact t.flat_pos
theorem isTree_nd0 {op : Int} (h : arV op = 0) : isTree [nd op] := ⟨.l (nd op), h, Pt.sets_l.2 (nd_ok op), rfl⟩
theorem isTree_1 {op : Int} {p : List S49} (h : arV op = 1) (hp : isTree p) : isTree (p ++ [nd op]) := by
  obtain ⟨t, a, b, rfl⟩ := hp
  exact ⟨.u (nd op) t, ⟨h, a⟩, Pt.sets_u.2 ⟨b, nd_ok op⟩, rfl⟩
theorem isTree_2 {op : Int} {p q : List S49} (h : arV op = 2) (hp : isTree p) (hq : isTree q) : isTree (p ++ (q ++ [nd op])) := by
  obtain ⟨t, a, b, rfl⟩ := hp
  obtain ⟨t', a', b', rfl⟩ := hq
  exact ⟨.b (nd op) t t', ⟨h, a, a'⟩, Pt.sets_b.2 ⟨b, b', nd_ok op⟩, rfl⟩
/-- The last node's op. -/
def lastOp (p : List S49) : Int := (p.getLastD ⟨0, []⟩).f0
theorem lastOp_snoc (p : List S49) (n : S49) : lastOp (p ++ [n]) = n.f0 := by simp [lastOp]
theorem isTree_not {p : List S49} (hp : isTree p) (h : arV (lastOp p) = 1) : isTree p.dropLast := by
  obtain ⟨t, a, b, rfl⟩ := hp
  cases t with
  | l n => simp only [Pt.flat, lastOp, List.getLastD_cons, List.getLastD_nil] at h; simp only [Pt.ok] at a; omega
  | u n t => exact ⟨t, a.2, (Pt.sets_u.1 b).1, by simp [Pt.flat]⟩
  | b n x y =>
    exfalso
    have : lastOp (Pt.b n x y).flat = n.f0 := by
      rw [show (Pt.b n x y).flat = (x.flat ++ y.flat) ++ [n] from by simp [Pt.flat]]; exact lastOp_snoc _ _
    rw [this] at h
    have := a.1
    omega
/-- What a node of tidy parts is tidied to. -/
def isNo (p : List S49) : Bool := sameP p [nd 2]
def isNi (p : List S49) : Bool := sameP p [nd 1]
def tidied1 (op : Int) (a : List S49) : List S49 :=
  if op = 6 then (if isNi a = true then [nd 1] else if isNo a = true then [nd 1] else if lastOp a = 6 then a else a ++ [nd op]) else if lastOp a = 7 then a.dropLast else a ++ [nd op]
def tidied2 (op : Int) (a b : List S49) : List S49 :=
  if op = 3 then (if isNo a = true then [nd 2] else if isNo b = true then [nd 2] else if isNi a = true then b else if isNi b = true then a else a ++ (b ++ [nd op]))
  else if op = 4 then (if isNo a = true then b else if sameP a b = true then b else if isNo b = true then a else a ++ (b ++ [nd op]))
  else (if isNo a = true then [nd 2] else if isNo b = true then [nd 2] else if sameP a b = true then a else a ++ (b ++ [nd op]))
def Pt.tid : Pt → List S49
  | .l n => [n]
  | .u n a => tidied1 n.f0 a.tid
  | .b n x y => tidied2 n.f0 x.tid y.tid
theorem isTree_tidied1 {op : Int} {a : List S49} (h : arV op = 1) (ha : isTree a) : isTree (tidied1 op a) := by
  unfold tidied1
  split
  · repeat' split
    all_goals first
      | exact isTree_nd0 (by simp [arV])
      | exact isTree_1 h ha
      | exact ha
  · split
    · rename_i e
      exact isTree_not ha (by rw [e]; simp [arV])
    · exact isTree_1 h ha
theorem isTree_tidied2 {op : Int} {a b : List S49} (h : arV op = 2) (ha : isTree a) (hb : isTree b) : isTree (tidied2 op a b) := by
  unfold tidied2
  repeat' split
  all_goals first
    | exact isTree_nd0 (by simp [arV])
    | exact isTree_2 h ha hb
    | assumption
theorem Pt.tid_tree : ∀ t : Pt, t.ok → t.sets → isTree t.tid
  | .l n, h, hs => ⟨.l n, h, hs, rfl⟩
  | .u n a, h, hs => isTree_tidied1 h.1 (a.tid_tree h.2 (Pt.sets_u.1 hs).1)
  | .b n x y, h, hs => isTree_tidied2 h.1 (x.tid_tree h.2.1 (Pt.sets_b.1 hs).1) (y.tid_tree h.2.2 (Pt.sets_b.1 hs).2.1)
theorem tidied1_len (op : Int) (a : List S49) (_ha : 0 < a.length) : (tidied1 op a).length ≤ a.length + 1 := by
  unfold tidied1
  repeat' split
  all_goals first | omega | (simp <;> omega)
theorem tidied2_len (op : Int) (a b : List S49) : (tidied2 op a b).length ≤ a.length + b.length + 1 := by
  unfold tidied2
  repeat' split
  all_goals first | omega | (simp <;> omega)
theorem Pt.tid_len : ∀ t : Pt, t.ok → t.sets → t.tid.length ≤ t.flat.length
  | .l n, _, _ => by simp [Pt.tid, Pt.flat]
  | .u n a, h, hs => by
    have h1 := a.tid_len h.2 (Pt.sets_u.1 hs).1
    have h2 := tidied1_len n.f0 a.tid (a.tid_tree h.2 (Pt.sets_u.1 hs).1).pos
    simp only [Pt.tid, Pt.flat, List.length_append, List.length_singleton]; omega
  | .b n x y, h, hs => by
    have h1 := x.tid_len h.2.1 (Pt.sets_b.1 hs).1
    have h2 := y.tid_len h.2.2 (Pt.sets_b.1 hs).2.1
    have h3 := tidied2_len n.f0 x.tid y.tid
    simp only [Pt.tid, Pt.flat, List.length_append, List.length_singleton]; omega
theorem rdS_mid (pre : List S49) (x : S49) (post : List S49) : rd_T49 (pre ++ x :: post) ((pre.length : Nat) : Int) = x := by
  rw [rdS_I _ _ (by simp)]; simp
/-- How many marks a list takes. -/
def totRe : List S49 → Int
  | [] => 0
  | x :: l => 1 + (x.f1.length : Int) + totRe l
/-- Back over a tree's nodes. -/
theorem first_tree (L : List S49) (hL : L.length ≤ 1000000) (r : Int) : ∀ (t : Pt), t.ok → ∀ (pre post : List S49) (need : Int), L = pre ++ (t.flat ++ post) → 1 ≤ need → need + (t.flat.length : Int) ≤ 1000000000 →
    Ev (fun k => spec_l5First.l0 k L (need - 1) ((pre.length : Int) - 1)) r → Ev (fun k => spec_l5First.l0 k L need ((pre.length : Int) + (t.flat.length : Int) - 1)) r := by
  have step : ∀ (pre post : List S49) (n : S49) (need : Int), L = pre ++ (n :: post) → 1 ≤ need → need ≤ 1000000000 → 0 ≤ arV n.f0 →
      Ev (fun k => spec_l5First.l0 k L (need + arV n.f0 - 1) ((pre.length : Int) - 1)) r → Ev (fun k => spec_l5First.l0 k L need (pre.length : Int)) r := by
    intro pre post n need e h1 h2 h3 h
    have hl : pre.length < L.length := by rw [e]; simp
    have ha : arV n.f0 ≤ 2 := by rcases arV_cases n.f0 with h | h | h | h <;> omega
    have e1 : wrap64 (arV n.f0 - 1) = arV n.f0 - 1 := wr _ (by omega) (by omega)
    have e2 : wrap64 (need + (arV n.f0 - 1)) = need + arV n.f0 - 1 := by rw [wr _ (by omega) (by omega)]; omega
    have e3 : wrap64 ((pre.length : Int) - 1) = (pre.length : Int) - 1 := wr _ (by omega) (by omega)
    have er : rd_T49 L ((pre.length : Nat) : Int) = n := by rw [e]; exact rdS_mid pre n post
    refine Ev.step (f := fun k => (spec_l5Arity.f k n.f0).bind fun t => spec_l5First.l0 k L (wrap64 (need + (wrap64 (t - 1)))) (wrap64 ((pre.length : Int) - 1))) (fun k => ?_) (Ev.bind (specAr_ev n.f0) (Ev.congr (fun k => by rw [e1, e2, e3]) h))
    simp only [spec_l5First.l0]
    rw [if_pos (by omega)]
    (try rw [if_pos (show (0 : Int) ≤ ((pre.length : Nat) : Int) from by omega)])
    rw [if_pos (by omega), er]
  intro t
  induction t with
  | l n =>
    intro ho pre post need e h1 h2 h
    have ho' : arV n.f0 = 0 := ho
    have := step pre post n need (by simpa [Pt.flat] using e) h1 (by omega) (by omega) (by rw [ho']; simpa using h)
    simpa [Pt.flat] using this
  | u n a ih =>
    intro ho pre post need e h1 h2 h
    have ho' : arV n.f0 = 1 := ho.1
    simp only [Pt.flat, List.length_append, List.length_singleton] at h2
    have h3 := ih ho.2 pre (n :: post) need (by simpa [Pt.flat] using e) h1 (by omega) h
    have := step (pre ++ a.flat) post n need (by simpa [Pt.flat] using e) h1 (by omega) (by omega) (by rw [ho']; refine Ev.congr (fun k => ?_) h3; simp only [List.length_append]; congr 1 <;> omega)
    refine Ev.congr (fun k => ?_) this
    simp only [Pt.flat, List.length_append, List.length_singleton]
    congr 1 <;> omega
  | b n x y ihx ihy =>
    intro ho pre post need e h1 h2 h
    have ho' : arV n.f0 = 2 := ho.1
    simp only [Pt.flat, List.length_append, List.length_singleton] at h2
    have h3 := ihx ho.2.1 pre (y.flat ++ n :: post) need (by simpa [Pt.flat] using e) h1 (by omega) h
    have h4 := ihy ho.2.2 (pre ++ x.flat) (n :: post) (need + 1) (by simpa [Pt.flat] using e) (by omega) (by omega) (by refine Ev.congr (fun k => ?_) h3; simp only [List.length_append]; congr 1 <;> omega)
    have := step (pre ++ x.flat ++ y.flat) post n need (by simpa [Pt.flat] using e) h1 (by omega) (by omega) (by rw [ho']; refine Ev.congr (fun k => ?_) h4; simp only [List.length_append]; congr 1 <;> omega)
    refine Ev.congr (fun k => ?_) this
    simp only [Pt.flat, List.length_append, List.length_singleton]
    congr 1 <;> omega
/-- The first part's root. -/
theorem first_ev (pre post : List S49) (n : S49) (x y : Pt) (hy : y.ok) (hL : (pre ++ (x.flat ++ (y.flat ++ n :: post))).length ≤ 1000000) :
    Ev (fun k => spec_l5First.f k (pre ++ (x.flat ++ (y.flat ++ n :: post))) ((pre.length : Int) + (x.flat.length : Int) + (y.flat.length : Int))) ((pre.length : Int) + (x.flat.length : Int) - 1) := by
  have hx := x.flat_pos
  simp only [List.length_append, List.length_cons] at hL
  have h0 : Ev (fun k => spec_l5First.l0 k (pre ++ (x.flat ++ (y.flat ++ n :: post))) (1 - 1) (((pre ++ x.flat).length : Nat) - 1 : Int)) ((pre.length : Int) + (x.flat.length : Int) - 1) := by
    refine Ev.step (f := fun _ => some ((pre.length : Int) + (x.flat.length : Int) - 1)) (fun k => ?_) (Ev.now _)
    simp only [spec_l5First.l0]
    rw [if_neg (by omega)]
    simp
  have := first_tree _ (by simp only [List.length_append, List.length_cons]; omega) _ y hy (pre ++ x.flat) (n :: post) 1 (by simp) (by omega) (by omega) h0
  refine Ev.congr (fun k => ?_) this
  unfold spec_l5First.f
  rw [wr _ (by omega) (by omega)]
  simp only [List.length_append]
  congr 1 <;> omega
theorem rd_root (pre post : List S49) (n : S49) (L : List S49) (i : Int) (e : L = pre ++ (n :: post)) (hi : i = (pre.length : Int)) : rd_T49 L i = n := by rw [e, hi]; exact rdS_mid pre n post
/-- What parts tells of a tree's nodes, the first of which stands at i. -/
def outsL : Pt → Int → List (List Int)
  | .l _, _ => [[]]
  | .u _ a, i => outsL a i ++ [[i + (a.flat.length : Int) - 1]]
  | .b _ x y, i => outsL x i ++ (outsL y (i + (x.flat.length : Int)) ++ [[i + (x.flat.length : Int) - 1, i + (x.flat.length : Int) + (y.flat.length : Int) - 1]])
theorem outsL_len : ∀ (t : Pt) (i : Int), (outsL t i).length = t.flat.length
  | .l _, _ => rfl
  | .u _ a, i => by simp [outsL, Pt.flat, outsL_len a]
  | .b _ x y, i => by simp [outsL, Pt.flat, outsL_len x, outsL_len y]
theorem parts_step (l : List S49) (hl : l.length ≤ 1000) (pre post : List S49) (n : S49) (e : l = pre ++ (n :: post)) (acc : List (List Int)) (rest top : List Int) (ha : acc.length ≤ pre.length) (hp : (rest ++ top).length ≤ pre.length) (har : arV n.f0 = (top.length : Int)) (r : List (List Int) × Bool)
    (h : Ev (fun k => impl_parts.l0 k (acc ++ [top]) (rest ++ [(pre.length : Int)]) l (l.length : Int) ((pre ++ [n]).length : Int)) r) : Ev (fun k => impl_parts.l0 k acc (rest ++ top) l (l.length : Int) (pre.length : Int)) r := by
  have hj : pre.length < l.length := by rw [e]; simp
  have e1 : wrap64 ((pre.length : Int) + 1) = ((pre ++ [n]).length : Int) := by rw [wr _ (by omega) (by omega)]; simp
  have e2 : wrap64 (((rest ++ top).length : Int) - (top.length : Int)) = ((rest.length : Nat) : Int) := by simp only [List.length_append] at hp ⊢; rw [wr _ (by omega) (by omega)]; omega
  refine Ev.step (fun k => by simp only [impl_parts.l0]; rw [if_pos (by omega), if_pos (by omega), if_pos (by omega), rd_root pre post n l _ e rfl, e1]) (Ev.bind (implAr_ev n.f0) ?_)
  refine Ev.congr (fun k => ?_) h
  simp only [List.length_append] at hp
  rw [har, if_neg (by omega), if_neg (by simp only [List.length_append]; omega), e2, if_pos (by omega), if_pos (by simp only [List.length_append]; omega), Int.toNat_natCast, List.drop_left, List.take_left, clone_v _ (by omega), Option.bind_some, if_pos (by omega), Option.bind_some, if_pos (by omega)]
theorem parts_tree (l : List S49) (hl : l.length ≤ 1000) (r : List (List Int) × Bool) : ∀ (t : Pt), t.ok → ∀ (pre post : List S49) (acc : List (List Int)) (pile : List Int), l = pre ++ (t.flat ++ post) → acc.length ≤ pre.length → pile.length ≤ pre.length →
    Ev (fun k => impl_parts.l0 k (acc ++ outsL t (pre.length : Int)) (pile ++ [(pre.length : Int) + (t.flat.length : Int) - 1]) l (l.length : Int) ((pre ++ t.flat).length : Int)) r → Ev (fun k => impl_parts.l0 k acc pile l (l.length : Int) (pre.length : Int)) r := by
  intro t
  induction t with
  | l n =>
    intro ho pre post acc pile e ha hp h
    have := parts_step l hl pre post n (by simpa [Pt.flat] using e) acc pile [] ha (by simpa using hp) (by simpa [Pt.ok] using ho) r (by
      refine Ev.congr (fun k => ?_) h
      simp only [outsL, Pt.flat, List.length_singleton]
      congr 2 <;> simp)
    simpa using this
  | u n a ih =>
    intro ho pre post acc pile e ha hp h
    have h1 := ih ho.2 pre (n :: post) acc pile (by simpa [Pt.flat] using e) ha hp
    refine h1 ?_
    have ha0 := a.flat_pos
    have := parts_step l hl (pre ++ a.flat) post n (by simpa [Pt.flat] using e) (acc ++ outsL a (pre.length : Int)) pile [(pre.length : Int) + (a.flat.length : Int) - 1] (by simp [outsL_len]; omega) (by simp; omega) (by simpa using ho.1) r (by
      refine Ev.congr (fun k => ?_) h
      simp only [outsL, Pt.flat, List.append_assoc, List.length_append, List.length_singleton]
      congr 3 <;> omega)
    exact this
  | b n x y ihx ihy =>
    intro ho pre post acc pile e ha hp h
    have h1 := ihx ho.2.1 pre (y.flat ++ n :: post) acc pile (by simpa [Pt.flat] using e) ha hp
    refine h1 ?_
    have hx0 := x.flat_pos
    have hy0 := y.flat_pos
    have h2 := ihy ho.2.2 (pre ++ x.flat) (n :: post) (acc ++ outsL x (pre.length : Int)) (pile ++ [(pre.length : Int) + (x.flat.length : Int) - 1]) (by simpa [Pt.flat] using e) (by simp [outsL_len]; omega) (by simp; omega)
    refine h2 ?_
    have := parts_step l hl (pre ++ x.flat ++ y.flat) post n (by simpa [Pt.flat] using e) (acc ++ outsL x (pre.length : Int) ++ outsL y ((pre ++ x.flat).length : Int)) pile [(pre.length : Int) + (x.flat.length : Int) - 1, ((pre ++ x.flat).length : Int) + (y.flat.length : Int) - 1] (by simp [outsL_len]; omega) (by simp; omega) (by simpa using ho.1) r (by
      refine Ev.congr (fun k => ?_) h
      simp only [outsL, Pt.flat, List.append_assoc, List.length_append, List.length_singleton, Int.natCast_add]
      congr 3 <;> omega)
    simpa [List.append_assoc] using this
/-- The parts of a good tree's list. -/
theorem partsT_ev (t : Pt) (ho : t.ok) (hl : t.flat.length ≤ 1000) : Ev (fun k => impl_parts.f k t.flat) (outsL t 0, true) := by
  have := parts_tree t.flat hl (outsL t 0, true) t ho [] [] [] [] (by simp) (by simp) (by simp) (by
    refine Ev.step (f := fun _ => some (outsL t 0, true)) (fun k => ?_) (Ev.now _)
    simp only [impl_parts.l0]
    rw [if_neg (by simp)]
    simp)
  exact Ev.congr (fun k => by unfold impl_parts.f; rfl) this
theorem splitL_ev (n : S49) (ho : arV n.f0 = 0) : Ev (fun k => impl_split.f k [n]) (n.f0, [], []) := by
  have e1 : wrap64 ((([n] : List S49).length : Int) - 1) = ((([] : List S49).length : Nat) : Int) := by rw [wr _ (by simp) (by simp)]; rfl
  have er := rd_root [] [] n [n] ((([] : List S49).length : Nat) : Int) rfl rfl
  unfold impl_split.f
  rw [e1]
  refine Ev.congr (fun k => by rw [if_pos (by simp), if_pos (by simp), er]) (Ev.bind (implAr_ev n.f0) ?_)
  exact Ev.congr (fun k => by rw [ho, if_pos rfl]) (Ev.now _)
theorem splitU_ev (n : S49) (a : Pt) (ho : arV n.f0 = 1) (hl : (Pt.u n a).flat.length ≤ 1000) : Ev (fun k => impl_split.f k (Pt.u n a).flat) (n.f0, a.flat, []) := by
  simp only [Pt.flat] at hl ⊢
  have hl' := hl
  simp only [List.length_append, List.length_singleton] at hl'
  have e1 : wrap64 (((a.flat ++ [n]).length : Int) - 1) = ((a.flat.length : Nat) : Int) := by simp only [List.length_append, List.length_singleton]; rw [wr _ (by omega) (by omega)]; omega
  have er := rd_root a.flat [] n (a.flat ++ [n]) ((a.flat.length : Nat) : Int) rfl rfl
  unfold impl_split.f
  rw [e1]
  refine Ev.congr (fun k => by rw [if_pos (by omega), if_pos (by simp only [List.length_append, List.length_singleton]; omega), er]) (Ev.bind (implAr_ev n.f0) ?_)
  refine Ev.congr (fun k => by rw [ho, if_neg (by omega), if_pos rfl, if_pos (by simp only [List.length_append, List.length_singleton]; omega), Int.toNat_natCast, List.take_left]) (Ev.now _)
theorem splitB_ev (n : S49) (x y : Pt) (ho : (Pt.b n x y).ok) (hl : (Pt.b n x y).flat.length ≤ 1000) : Ev (fun k => impl_split.f k (Pt.b n x y).flat) (n.f0, x.flat, y.flat) := by
  have hp := partsT_ev (Pt.b n x y) ho hl
  have ho' : arV n.f0 = 2 := ho.1
  have hx := x.flat_pos
  have hy := y.flat_pos
  have ef : (Pt.b n x y).flat = (x.flat ++ y.flat) ++ [n] := by simp [Pt.flat]
  rw [ef] at hp hl ⊢
  have hl' := hl
  simp only [List.length_append, List.length_singleton] at hl'
  have e1 : wrap64 ((((x.flat ++ y.flat) ++ [n]).length : Int) - 1) = (((x.flat ++ y.flat).length : Nat) : Int) := by simp only [List.length_append, List.length_singleton]; rw [wr _ (by omega) (by omega)]; omega
  have er := rd_root (x.flat ++ y.flat) [] n ((x.flat ++ y.flat) ++ [n]) (((x.flat ++ y.flat).length : Nat) : Int) rfl rfl
  have eo : outsL (Pt.b n x y) 0 = (outsL x 0 ++ outsL y (x.flat.length : Int)) ++ [[(x.flat.length : Int) - 1, (x.flat.length : Int) + (y.flat.length : Int) - 1]] := by simp [outsL]
  have elen : (outsL x 0 ++ outsL y (x.flat.length : Int)).length = (x.flat ++ y.flat).length := by simp [outsL_len]
  have eL : rd_L1 (outsL (Pt.b n x y) 0) (((x.flat ++ y.flat).length : Nat) : Int) = [(x.flat.length : Int) - 1, (x.flat.length : Int) + (y.flat.length : Int) - 1] := by
    unfold rd_L1
    rw [Int.toNat_natCast, eo, List.getD_eq_getElem?_getD, List.getElem?_append_right (by rw [elen]; omega), elen]
    simp
  have e0 : rd [(x.flat.length : Int) - 1, (x.flat.length : Int) + (y.flat.length : Int) - 1] 0 = (x.flat.length : Int) - 1 := rfl
  have e2 : wrap64 ((x.flat.length : Int) - 1 + 1) = ((x.flat.length : Nat) : Int) := by rw [wr _ (by omega) (by omega)]; omega
  have e3 : (outsL (Pt.b n x y) 0).length = (x.flat ++ y.flat).length + 1 := by rw [eo, List.length_append, elen]; rfl
  unfold impl_split.f
  rw [e1]
  refine Ev.congr (fun k => by rw [if_pos (by omega), if_pos (by simp; omega), er]) (Ev.bind (implAr_ev n.f0) ?_)
  refine Ev.congr (fun k => by rw [ho', if_neg (by omega), if_neg (by omega)]) (Ev.bind hp ?_)
  refine Ev.congr (fun k => by rw [if_pos (by rw [e3]; omega), eL, if_pos (by simp), e0, e2, if_pos (by omega), if_pos (by simp only [List.length_append, List.length_singleton]; omega), if_pos (by simp only [List.length_append]; omega), if_pos (by simp only [List.length_append, List.length_singleton]; omega), Int.toNat_natCast, Int.toNat_natCast, List.take_left, List.drop_left, List.append_assoc, List.take_left]) (Ev.now _)
theorem sets_len {t : Pt} (h : t.sets) : ∀ x ∈ t.flat, x.f1.length ≤ 1048576 := by
  intro x hx
  have := h x hx
  simp only [setOk, Bool.and_eq_true] at this
  have := (goodS_facts _ this.1).1
  omega
/-- The spans of a set. -/
def spansV : List Int → List S92
  | a :: b :: r => ⟨a, b⟩ :: spansV r
  | _ => []

theorem spansV_length (l : List Int) : (spansV l).length ≤ l.length := by
  match l with
  | [] => simp [spansV]
  | [_] => simp [spansV]
  | a :: b :: r =>
    have := spansV_length r
    simp only [spansV, List.length_cons]
    omega
termination_by l.length

theorem spansOf_l (l : List Int) (hl : l.length ≤ 4398046511104) : ∀ (d j : Nat) (acc : List S92), l.length ≤ j + 2 * d → j ≤ l.length + 1 → acc.length ≤ j → Ev (fun k => impl_spansOf.l0 k l acc (j : Int)) (acc ++ spansV (l.drop j)) := by
  intro d
  induction d with
  | zero =>
    intro j acc hj hj2 ha
    refine Ev.step (f := fun _ => some (acc ++ spansV (l.drop j))) (fun k => ?_) (Ev.now _)
    simp only [impl_spansOf.l0]
    rw [wr _ (by omega) (by omega), if_neg (by omega), List.drop_of_length_le (by omega)]
    simp [spansV]
  | succ d ih =>
    intro j acc hj hj2 ha
    have e1 : wrap64 ((j : Int) + 1) = ((j + 1 : Nat) : Int) := by rw [wr _ (by omega) (by omega)]; omega
    have e2 : wrap64 ((j : Int) + 2) = ((j + 2 : Nat) : Int) := by rw [wr _ (by omega) (by omega)]; omega
    by_cases h : j + 1 < l.length
    · refine Ev.step (f := fun k => impl_spansOf.l0 k l (acc ++ [(⟨l[j]'(by omega), l[j + 1]'(by omega)⟩ : S92)]) ((j + 2 : Nat) : Int)) (fun k => ?_) ?_
      · simp only [impl_spansOf.l0]
        rw [e1, if_pos (by omega), if_pos (by omega), if_pos (by omega), if_pos (by omega), if_pos (by omega), rd_at l j (by omega), rd_at l (j + 1) (by omega), e2]
      · have := ih (j + 2) (acc ++ [(⟨l[j]'(by omega), l[j + 1]'(by omega)⟩ : S92)]) (by omega) (by omega) (by simp; omega)
        rw [drop_at l j (by omega), drop_at l (j + 1) (by omega)]
        simpa only [spansV, List.append_assoc, List.singleton_append] using this
    · refine Ev.step (f := fun _ => some (acc ++ spansV (l.drop j))) (fun k => ?_) (Ev.now _)
      simp only [impl_spansOf.l0]
      rw [e1, if_neg (by omega)]
      have : spansV (l.drop j) = [] := by
        by_cases z : j < l.length
        · rw [drop_at l j z, List.drop_of_length_le (by omega)]
          rfl
        · rw [List.drop_of_length_le (by omega)]
          rfl
      rw [this, List.append_nil]

theorem spansOf_ev (l : List Int) (hl : l.length ≤ 4398046511104) : Ev (fun k => impl_spansOf.f k l) (spansV l) :=
  Ev.congr (fun k => by unfold impl_spansOf.f; rfl) (by simpa using spansOf_l l hl (l.length) 0 [] (by omega) (by omega) (by simp))

theorem rdS_at (l : List S92) (j : Nat) (h : j < l.length) : rd_T92 l (j : Int) = l[j] := by unfold rd_T92; simp [List.getD_eq_getElem?_getD, h]

/-- The bytes of a rune. -/
def u8V (r : Int) : List Int :=
  if r < 128 then [r] else if r < 2048 then [192 + r / 64, 128 + r % 64] else if r < 65536 then [224 + r / 4096, 128 + r / 64 % 64, 128 + r % 64]
  else [240 + r / 262144, 128 + r / 4096 % 64, 128 + r / 64 % 64, 128 + r % 64]

theorem isR_range (r : Int) (h : isR r = true) : 0 ≤ r ∧ r ≤ 1114111 ∧ ¬ (55296 ≤ r ∧ r ≤ 57343) := by
  unfold isR at h
  rw [Bool.and_eq_true, inB_iff, Bool.not_eq_true', Bool.eq_false_iff, Ne, inB_iff] at h
  exact ⟨h.1.1, h.1.2, h.2⟩

theorem u8_s (r : Int) (h : isR r = true) : spec_l1Utf8.f r = some (strOfNums (u8V r)) := by
  obtain ⟨h0, h1, _⟩ := isR_range r h
  unfold spec_l1Utf8.f u8V
  by_cases c1 : r < 128
  · rw [if_pos c1, if_pos c1, Int.emod_eq_of_lt h0 (by omega)]
  · rw [if_neg c1, if_neg c1]
    by_cases c2 : r < 2048
    · rw [if_pos c2, if_pos c2, Int.tdiv_eq_ediv_of_nonneg h0, Int.tmod_eq_emod_of_nonneg h0, wr (r / 64) (by omega) (by omega), wr (192 + r / 64) (by omega) (by omega), wr (128 + r % 64) (by omega) (by omega), Int.emod_eq_of_lt (a := 192 + r / 64) (by omega) (by omega), Int.emod_eq_of_lt (a := 128 + r % 64) (by omega) (by omega)]
    · rw [if_neg c2, if_neg c2]
      by_cases c3 : r < 65536
      · rw [if_pos c3, if_pos c3, Int.tdiv_eq_ediv_of_nonneg h0, Int.tdiv_eq_ediv_of_nonneg h0, Int.tmod_eq_emod_of_nonneg h0, wr (r / 64) (by omega) (by omega), wr (r / 4096) (by omega) (by omega), Int.tmod_eq_emod_of_nonneg (a := r / 64) (by omega), wr (224 + r / 4096) (by omega) (by omega), wr (128 + r % 64) (by omega) (by omega), wr (128 + r / 64 % 64) (by omega) (by omega), Int.emod_eq_of_lt (a := 224 + r / 4096) (by omega) (by omega), Int.emod_eq_of_lt (a := 128 + r % 64) (by omega) (by omega), Int.emod_eq_of_lt (a := 128 + r / 64 % 64) (by omega) (by omega)]
      · rw [if_neg c3, if_neg c3, Int.tdiv_eq_ediv_of_nonneg h0, Int.tdiv_eq_ediv_of_nonneg h0, Int.tdiv_eq_ediv_of_nonneg h0, Int.tmod_eq_emod_of_nonneg h0, wr (r / 64) (by omega) (by omega), wr (r / 4096) (by omega) (by omega), wr (r / 262144) (by omega) (by omega), Int.tmod_eq_emod_of_nonneg (a := r / 64) (by omega), Int.tmod_eq_emod_of_nonneg (a := r / 4096) (by omega), wr (240 + r / 262144) (by omega) (by omega), wr (128 + r % 64) (by omega) (by omega), wr (128 + r / 64 % 64) (by omega) (by omega), wr (128 + r / 4096 % 64) (by omega) (by omega), Int.emod_eq_of_lt (a := 240 + r / 262144) (by omega) (by omega), Int.emod_eq_of_lt (a := 128 + r % 64) (by omega) (by omega), Int.emod_eq_of_lt (a := 128 + r / 64 % 64) (by omega) (by omega), Int.emod_eq_of_lt (a := 128 + r / 4096 % 64) (by omega) (by omega)]

theorem u8_enc (r : Int) (h : isR r = true) : Utf8.encode r = strOfNums (u8V r) := by
  obtain ⟨h0, h1, h2⟩ := isR_range r h
  obtain ⟨n, rfl⟩ := Int.eq_ofNat_of_zero_le h0
  have hv : Utf8.valid (n : Int) = true := by
    unfold Utf8.valid
    simp only [Bool.or_eq_true, Bool.and_eq_true, decide_eq_true_eq]
    omega
  unfold Utf8.encode u8V
  simp only [hv, if_true, Int.toNat_natCast]
  by_cases c1 : n < 128
  · rw [if_pos c1, if_pos (show (n : Int) < 128 by omega)]
    simp [strOfNums]
  · rw [if_neg c1, if_neg (show ¬ (n : Int) < 128 by omega)]
    by_cases c2 : n < 2048
    · rw [if_pos c2, if_pos (show (n : Int) < 2048 by omega)]
      have e1 : (192 + (n : Int) / 64).toNat = 192 + n / 64 := by omega
      have e2 : (128 + (n : Int) % 64).toNat = 128 + n % 64 := by omega
      simp only [strOfNums, List.map_cons, List.map_nil, e1, e2]
    · rw [if_neg c2, if_neg (show ¬ (n : Int) < 2048 by omega)]
      by_cases c3 : n < 65536
      · rw [if_pos c3, if_pos (show (n : Int) < 65536 by omega)]
        have e1 : (224 + (n : Int) / 4096).toNat = 224 + n / 4096 := by omega
        have e2 : (128 + (n : Int) / 64 % 64).toNat = 128 + n / 64 % 64 := by omega
        have e3 : (128 + (n : Int) % 64).toNat = 128 + n % 64 := by omega
        simp only [strOfNums, List.map_cons, List.map_nil, e1, e2, e3]
      · rw [if_neg c3, if_neg (show ¬ (n : Int) < 65536 by omega)]
        have e1 : (240 + (n : Int) / 262144).toNat = 240 + n / 262144 := by omega
        have e2 : (128 + (n : Int) / 4096 % 64).toNat = 128 + n / 4096 % 64 := by omega
        have e3 : (128 + (n : Int) / 64 % 64).toNat = 128 + n / 64 % 64 := by omega
        have e4 : (128 + (n : Int) % 64).toNat = 128 + n % 64 := by omega
        simp only [strOfNums, List.map_cons, List.map_nil, e1, e2, e3, e4]

theorem u8_i (r : Int) (h : isR r = true) : impl_utf8Of.f r = some (strOfNums (u8V r)) := by
  obtain ⟨h0, h1, h2⟩ := isR_range r h
  unfold impl_utf8Of.f
  rw [show wrap32 r = r from by unfold wrap32; omega, u8_enc r h]

/-- The bytes of runes. -/
def txt (l : List Int) : List Int := l.flatMap u8V

theorem u8V_bytes (r : Int) (h : isR r = true) : ∀ x ∈ u8V r, 0 ≤ x ∧ x < 256 := by
  obtain ⟨h0, h1, _⟩ := isR_range r h
  intro x hx
  unfold u8V at hx
  split at hx
  · simp only [List.mem_cons, List.not_mem_nil, or_false] at hx; omega
  · split at hx
    · simp only [List.mem_cons, List.not_mem_nil, or_false] at hx; omega
    · split at hx
      · simp only [List.mem_cons, List.not_mem_nil, or_false] at hx; omega
      · simp only [List.mem_cons, List.not_mem_nil, or_false] at hx; omega

theorem u8V_length (r : Int) : (u8V r).length ≤ 4 := by
  unfold u8V
  split
  · simp
  · split
    · simp
    · split <;> simp

theorem bytesOf_str (l : List Int) (h : ∀ x ∈ l, 0 ≤ x ∧ x < 256) : bytesOf (strOfNums l) = l := by
  unfold bytesOf strOfNums
  simp only [List.map_map]
  have : ∀ x ∈ l, ((fun b : UInt8 => (b.toNat : Int)) ∘ fun n : Int => UInt8.ofNat n.toNat) x = x := by
    intro x hx
    have := h x hx
    simp only [Function.comp, UInt8.toNat_ofNat']
    omega
  rw [List.map_congr_left this]
  simp

theorem size_str (l : List Int) : (strOfNums l).size = l.length := by
  unfold strOfNums
  simp [ByteArray.size]

theorem specText_l (l : List Int) (hl : l.length ≤ 17592186044416) (hr : ∀ x ∈ l, isR x = true) : ∀ (d j : Nat) (acc : List Int), j + d = l.length → acc.length ≤ 4 * j → Ev (fun k => spec_l1TextOf.l0 k acc l (l.length : Int) (j : Int)) (strOfNums (acc ++ txt (l.drop j))) := by
  intro d
  induction d with
  | zero =>
    intro j acc hj ha
    refine Ev.step (f := fun _ => some (strOfNums (acc ++ txt (l.drop j)))) (fun k => ?_) (Ev.now _)
    simp only [spec_l1TextOf.l0]
    rw [if_neg (by omega), List.drop_of_length_le (by omega)]
    simp [txt]
  | succ d ih =>
    intro j acc hj ha
    have hg := hr (l[j]'(by omega)) (List.getElem_mem _)
    have h4 := u8V_length (l[j]'(by omega))
    refine Ev.step (f := fun k => spec_l1TextOf.l0 k (acc ++ u8V (l[j]'(by omega))) l (l.length : Int) ((j + 1 : Nat) : Int)) (fun k => ?_) ?_
    · simp only [spec_l1TextOf.l0]
      rw [if_pos (by omega), if_pos (by omega), if_pos (by omega), rd_at l j (by omega), u8_s _ hg, wr _ (by omega) (by omega)]
      simp only [Option.bind_some]
      rw [size_str, if_pos (by omega), bytesOf_str _ (u8V_bytes _ hg)]
      rfl
    · have := ih (j + 1) (acc ++ u8V (l[j]'(by omega))) (by omega) (by rw [List.length_append]; omega)
      rw [drop_at l j (by omega), show txt (l[j]'(by omega) :: l.drop (j + 1)) = u8V (l[j]'(by omega)) ++ txt (l.drop (j + 1)) from List.flatMap_cons, ← List.append_assoc]
      exact this

theorem specText_ev (l : List Int) (hl : l.length ≤ 17592186044416) (hr : ∀ x ∈ l, isR x = true) : Ev (fun k => spec_l1TextOf.f k l) (strOfNums (txt l)) :=
  Ev.congr (fun k => by unfold spec_l1TextOf.f; rfl) (by simpa using specText_l l hl hr l.length 0 [] (by omega) (by simp))

theorem getB (s : ByteArray) (i : Nat) : bt s (i : Int) = ((s.get! i).toNat : Int) ∨ ¬ i < s.size := by
  by_cases h : i < s.size
  · left
    unfold bt
    rw [dif_pos (by simpa using h)]
    simp only [Int.toNat_natCast]
    show ((s[i]'h).toNat : Int) = ((s.data[i]!).toNat : Int)
    rw [getElem!_pos s.data i h]
    rfl
  · exact Or.inr h
theorem bt_get (s : ByteArray) (i : Nat) (h : i < s.size) : bt s (i : Int) = ((s.get! i).toNat : Int) := (getB s i).resolve_right (fun g => g h)

theorem str_ext (s : ByteArray) (i n : Nat) (h : i + n ≤ s.size) (l : List Int) (hl : ∀ x ∈ l, 0 ≤ x ∧ x ≤ 255) : ((strOfNums l).toList = (s.extract i (i + n)).toList) ↔ (l.length = n ∧ ∀ k, k < n → l.getD k 0 = bt s ((i + k : Nat) : Int)) := by
  rw [ByteArray.toList_eq, ByteArray.toList_eq, strOfNums_data, ByteArray.data_extract]
  have hz : (s.data.extract i (i + n)).size = n := by
    have : s.data.size = s.size := rfl
    rw [Array.size_extract]; omega
  have hg : ∀ k (hk : k < n), ((s.data.extract i (i + n)).toList[k]'(by rw [Array.length_toList, hz]; exact hk)).toNat = (bt s ((i + k : Nat) : Int)).toNat := by
    intro k hk
    rw [bt_get s (i + k) (by omega)]
    show _ = (((s.data[i + k]!).toNat : Int)).toNat
    rw [getElem!_pos s.data (i + k) (by show i + k < s.size; omega)]
    simp
  have hb : ∀ k, 0 ≤ bt s ((i + k : Nat) : Int) ∧ bt s ((i + k : Nat) : Int) ≤ 255 := fun k => bt_range _ _
  constructor
  · intro e
    have e1 : l.length = n := by
      have := congrArg List.length e
      rwa [List.length_map, Array.length_toList (xs := s.data.extract i (i + n)), hz] at this
    refine ⟨e1, fun k hk => ?_⟩
    have e2 : (l.map fun n => UInt8.ofNat n.toNat)[k]'(by rw [List.length_map]; omega) = (s.data.extract i (i + n)).toList[k]'(by rw [Array.length_toList, hz]; exact hk) := by simp only [e]
    have e3 := congrArg UInt8.toNat e2
    rw [hg k hk, List.getElem_map] at e3
    have h1 := hl (l[k]'(by omega)) (List.getElem_mem _)
    have h2 := hb k
    rw [UInt8.toNat_ofNat', Nat.mod_eq_of_lt (by omega)] at e3
    rw [getD_at l k (by omega)]
    omega
  · rintro ⟨e1, e2⟩
    refine List.ext_getElem (by rw [List.length_map, Array.length_toList (xs := s.data.extract i (i + n)), hz, e1]) fun k h1 h2 => ?_
    rw [List.length_map] at h1
    apply UInt8.toNat_inj.1
    rw [hg k (by omega), List.getElem_map, UInt8.toNat_ofNat']
    have h3 := hl (l[k]'(by omega)) (List.getElem_mem _)
    have h4 := e2 k (by omega)
    rw [getD_at l k (by omega)] at h4
    rw [Nat.mod_eq_of_lt (by omega), h4]

theorem u8V_range (r : Int) (h0 : 0 ≤ r) (h1 : r ≤ 1114111) : ∀ x ∈ u8V r, 0 ≤ x ∧ x ≤ 255 := by
  intro x hx
  unfold u8V at hx
  by_cases c1 : r < 128
  · rw [if_pos c1] at hx; simp only [List.mem_cons, List.not_mem_nil, or_false] at hx; omega
  · rw [if_neg c1] at hx
    by_cases c2 : r < 2048
    · rw [if_pos c2] at hx; simp only [List.mem_cons, List.not_mem_nil, or_false] at hx; omega
    · rw [if_neg c2] at hx
      by_cases c3 : r < 65536
      · rw [if_pos c3] at hx; simp only [List.mem_cons, List.not_mem_nil, or_false] at hx; omega
      · rw [if_neg c3] at hx; simp only [List.mem_cons, List.not_mem_nil, or_false] at hx; omega

theorem at_step (s : ByteArray) (hs : s.size ≤ 4611686018427387904) (i n x : Nat) (v : Int) (r : Int × Int) (h : x < n) (hi : i + n ≤ s.size) (h0 : 0 ≤ v) (h1 : v ≤ 1000000) (hr : Ev (fun k => spec_l1At.l0 k s (i : Int) (n : Int) (v * 64 + bt s ((i + x : Nat) : Int) % 64) ((x + 1 : Nat) : Int)) r) : Ev (fun k => spec_l1At.l0 k s (i : Int) (n : Int) v (x : Int)) r := by
  refine Ev.step (fun k => ?_) hr
  have hb := bt_range s ((i + x : Nat) : Int)
  simp only [spec_l1At.l0]
  rw [if_pos (by omega), wr ((i : Int) + (x : Int)) (by omega) (by omega), if_pos (by omega), if_pos (by omega), show (i : Int) + (x : Int) = ((i + x : Nat) : Int) from by omega, wr (bt s _) (by omega) (by omega), Int.tmod_eq_emod_of_nonneg hb.1, wr (v * 64) (by omega) (by omega), wr _ (by omega) (by omega), wr ((x : Int) + 1) (by omega) (by omega)]
  rfl

theorem at_end (s : ByteArray) (hs : s.size ≤ 4611686018427387904) (i n : Nat) (v : Int) (hi : i + n ≤ s.size) (b : Bool) (hb : (isR v = true → (((u8V v).length = n ∧ ∀ k, k < n → (u8V v).getD k 0 = bt s ((i + k : Nat) : Int)) ↔ b = true)) ∧ (isR v = false → b = false)) : Ev (fun k => spec_l1At.l0 k s (i : Int) (n : Int) v (n : Int)) (if b = true then (v, (n : Int)) else (65533, 1)) := by
  refine Ev.step (f := fun _ => some (if b = true then (v, (n : Int)) else (65533, 1))) (fun k => ?_) (Ev.now _)
  simp only [spec_l1At.l0]
  rw [if_neg (by omega), gr_s]
  cases e : isR v with
  | false => rw [hb.2 e]; simp
  | true =>
    obtain ⟨r0, r1, _⟩ := isR_range v e
    have key := (str_ext s i n hi (u8V v) (u8V_range v r0 r1)).trans (hb.1 e)
    rw [Option.bind_some, if_pos rfl, u8_s v e, Option.bind_some, wr ((i : Int) + (n : Int)) (by omega) (by omega), if_pos (by omega), if_pos (by omega), if_pos (by omega), show ((i : Int) + (n : Int)).toNat = i + n from by omega, Int.toNat_natCast]
    by_cases c : (strOfNums (u8V v)).toList = (s.extract i (i + n)).toList
    · rw [if_pos c, if_pos (key.1 c)]
    · rw [if_neg c, if_neg (fun g => c (key.2 g))]

theorem long_ev (b : Int) : spec_l1Long.f b = some (if b < 128 then 1 else if b < 192 then 0 else if b < 224 then 2 else if b < 240 then 3 else if b < 248 then 4 else 0) := by
  unfold spec_l1Long.f
  split
  · rfl
  · split
    · rfl
    · split
      · rfl
      · split
        · rfl
        · split <;> rfl

theorem isR_iff (v : Int) : isR v = true ↔ 0 ≤ v ∧ v ≤ 1114111 ∧ ¬ (55296 ≤ v ∧ v ≤ 57343) := by
  unfold isR
  rw [Bool.and_eq_true, inB_iff, Bool.not_eq_true', Bool.eq_false_iff, Ne, inB_iff, and_assoc]

def pairZ (p : Nat × Nat) : Int × Int := ((p.1 : Int), (p.2 : Int))

theorem at_ev (s : ByteArray) (hs : s.size ≤ 4611686018427387904) (i : Nat) (hi : i < s.size) : Ev (fun k => spec_l1At.f k s (i : Int)) (pairZ (Utf8.decode s i)) := by
  have bad : ∀ t, Ev (fun k => spec_l1At.j0 k s (i : Int) t true) (65533, 1) := fun t => Ev.step (f := fun _ => some (65533, 1)) (fun k => by simp [spec_l1At.j0]) (Ev.now _)
  rw [Lib.decode_at]
  have h0 := bt_get s i hi
  have l0 : (s.get! i).toNat < 256 := UInt8.toNat_lt _
  generalize hb0 : (s.get! i).toNat = b0 at h0 l0
  have start : ∀ (n : Nat), 1 ≤ n → i + n ≤ s.size → (if (b0 : Int) < 128 then (1 : Int) else if (b0 : Int) < 192 then 0 else if (b0 : Int) < 224 then 2 else if (b0 : Int) < 240 then 3 else if (b0 : Int) < 248 then 4 else 0) = (n : Int) → ∀ r, Ev (fun k => spec_l1At.j0 k s (i : Int) (n : Int) false) r → Ev (fun k => spec_l1At.f k s (i : Int)) r := by
    intro n hn1 hn hl r hr
    refine Ev.congr (fun k => ?_) hr
    unfold spec_l1At.f
    rw [if_pos (by omega), if_pos (by omega), h0, long_ev, hl, Option.bind_some, if_neg (by omega), wr _ (by omega) (by omega), show decide ((i : Int) + (n : Int) > (s.size : Int)) = false from decide_eq_false (by omega)]
  have out : ∀ (n : Nat), 1 ≤ n → n ≤ 4 → ¬ i + n ≤ s.size → (if (b0 : Int) < 128 then (1 : Int) else if (b0 : Int) < 192 then 0 else if (b0 : Int) < 224 then 2 else if (b0 : Int) < 240 then 3 else if (b0 : Int) < 248 then 4 else 0) = (n : Int) → Ev (fun k => spec_l1At.f k s (i : Int)) (65533, 1) := by
    intro n hn1 hn2 hn hl
    refine Ev.congr (fun k => ?_) (bad (n : Int))
    unfold spec_l1At.f
    rw [if_pos (by omega), if_pos (by omega), h0, long_ev, hl, Option.bind_some, if_neg (by omega), wr _ (by omega) (by omega), show decide ((i : Int) + (n : Int) > (s.size : Int)) = true from decide_eq_true (by omega)]
  have zero : (if (b0 : Int) < 128 then (1 : Int) else if (b0 : Int) < 192 then 0 else if (b0 : Int) < 224 then 2 else if (b0 : Int) < 240 then 3 else if (b0 : Int) < 248 then 4 else 0) = 0 → Ev (fun k => spec_l1At.f k s (i : Int)) (65533, 1) := by
    intro hl
    refine Ev.congr (fun k => ?_) (bad 0)
    unfold spec_l1At.f
    rw [if_pos (by omega), if_pos (by omega), h0, long_ev, hl, Option.bind_some, if_pos rfl]
  have lead : ∀ (n : Nat) (m : Int), 2 ≤ n → n ≤ 4 → shl .i64 1 (IntKind.u64.wrap (wrap64 (7 - (n : Int)))) = m → m ≠ 0 → 0 ≤ IntKind.u64.wrap (wrap64 (7 - (n : Int))) → ∀ r, Ev (fun k => spec_l1At.l0 k s (i : Int) (n : Int) (Int.tmod (b0 : Int) m) 1) r → Ev (fun k => spec_l1At.j0 k s (i : Int) (n : Int) false) r := by
    intro n m hn1 hn2 hm hm0 hw r hr
    refine Ev.step (f := fun k => spec_l1At.j1 k s (i : Int) (n : Int) (Int.tmod (b0 : Int) m)) (fun k => ?_) (Ev.step (fun k => ?_) hr)
    · simp only [spec_l1At.j0]
      rw [if_neg (by simp), if_pos (by omega), if_pos (by omega), if_pos (by omega), if_pos hw, hm, if_neg hm0, h0, wr (b0 : Int) (by omega) (by omega)]
    · simp only [spec_l1At.j1]
  by_cases c1 : b0 < 128
  · -- one byte
    have e : Lib.decodeN (s.size - i) b0 (s.get! (i + 1)).toNat (s.get! (i + 2)).toNat (s.get! (i + 3)).toNat = (b0, 1) := by
      unfold Lib.decodeN; rw [if_pos c1]
    rw [e]
    refine start 1 (by omega) (by omega) (by rw [if_pos (by omega)]; rfl) _ ?_
    have en := at_end s hs i 1 (b0 : Int) (by omega) true ⟨fun _ => ⟨fun _ => rfl, fun _ => ?_⟩, fun h => ?_⟩
    · refine Ev.step (f := fun k => spec_l1At.j1 k s (i : Int) ((1 : Nat) : Int) (b0 : Int)) (fun k => ?_) (Ev.step (fun k => ?_) en)
      · simp only [spec_l1At.j0]
        rw [if_neg (by simp), if_pos (by omega), if_pos (by omega), if_neg (by omega), h0, wr (b0 : Int) (by omega) (by omega)]
      · simp only [spec_l1At.j1]
        rfl
    · unfold u8V
      rw [if_pos (by omega)]
      refine ⟨rfl, fun k hk => ?_⟩
      have : k = 0 := by omega
      subst this
      exact h0.symm
    · rw [Bool.eq_false_iff, Ne, isR_iff] at h
      omega
  by_cases c2 : b0 < 192
  · have e : Lib.decodeN (s.size - i) b0 (s.get! (i + 1)).toNat (s.get! (i + 2)).toNat (s.get! (i + 3)).toNat = (65533, 1) := by
      unfold Lib.decodeN; rw [if_neg c1, if_neg (by omega), if_neg (by omega), if_neg (by omega)]
    rw [e]
    exact zero (by rw [if_neg (by omega), if_pos (by omega)])
  by_cases c3 : b0 < 224
  · by_cases hn : i + 2 ≤ s.size
    · have h1 := bt_get s (i + 1) (by omega)
      have l1 : (s.get! (i + 1)).toNat < 256 := UInt8.toNat_lt _
      generalize (s.get! (i + 1)).toNat = b1 at h1 l1 ⊢
      refine start 2 (by omega) hn (by rw [if_neg (by omega), if_neg (by omega), if_pos (by omega)]; rfl) _ (lead 2 32 (by omega) (by omega) (by rw [show wrap64 (7 - ((2 : Nat) : Int)) = 5 from wr _ (by decide) (by decide)]; decide) (by decide) (by rw [show wrap64 (7 - ((2 : Nat) : Int)) = 5 from wr _ (by decide) (by decide)]; decide) _ ?_)
      rw [Int.tmod_eq_emod_of_nonneg (by omega)]
      refine at_step s hs i 2 1 _ _ (by omega) hn (by omega) (by omega) ?_
      rw [h1]
      have en := at_end s hs i 2 ((b0 : Int) % 32 * 64 + (b1 : Int) % 64) hn (decide (b1 / 64 = 2 ∧ b0 % 32 * 64 + b1 % 64 ≥ 128)) ⟨fun hr => ?_, fun hr => ?_⟩
      · refine Ev.congr (fun k => rfl) (Eq.mp ?_ en)
        congr 1
        by_cases q1 : b1 / 64 = 2
        · by_cases q2 : b0 % 32 * 64 + b1 % 64 ≥ 128
          · rw [if_pos (decide_eq_true ⟨q1, q2⟩)]
            unfold Lib.decodeN
            rw [if_neg c1, if_pos ⟨by omega, by omega, q1⟩, if_pos q2]; rfl
          · rw [if_neg (by rw [decide_eq_true_eq]; exact fun g => q2 g.2)]
            unfold Lib.decodeN
            rw [if_neg c1, if_pos ⟨by omega, by omega, q1⟩, if_neg q2]; rfl
        · rw [if_neg (by rw [decide_eq_true_eq]; exact fun g => q1 g.1)]
          unfold Lib.decodeN
          rw [if_neg c1, if_neg (by omega), if_neg (by omega), if_neg (by omega)]; rfl
      · rw [decide_eq_true_eq]
        unfold u8V
        constructor
        · rintro ⟨a1, a2⟩
          by_cases d1 : (b0 : Int) % 32 * 64 + (b1 : Int) % 64 < 128
          · rw [if_pos d1] at a1; simp at a1
          · rw [if_neg d1, if_pos (by omega)] at a2
            have p1 := a2 1 (by omega)
            rw [h1] at p1
            replace p1 : 128 + ((b0 : Int) % 32 * 64 + (b1 : Int) % 64) % 64 = (b1 : Int) := p1
            omega
        · rintro ⟨a1, a2⟩
          rw [if_neg (by omega), if_pos (by omega)]
          refine ⟨rfl, fun k hk => ?_⟩
          rcases (by omega : k = 0 ∨ k = 1) with rfl | rfl
          · show 192 + ((b0 : Int) % 32 * 64 + (b1 : Int) % 64) / 64 = _
            rw [Nat.add_zero, h0]; omega
          · show 128 + ((b0 : Int) % 32 * 64 + (b1 : Int) % 64) % 64 = _
            rw [h1]; omega
      · rw [Bool.eq_false_iff, Ne, isR_iff] at hr
        omega
    · have e : Lib.decodeN (s.size - i) b0 (s.get! (i + 1)).toNat (s.get! (i + 2)).toNat (s.get! (i + 3)).toNat = (65533, 1) := by
        unfold Lib.decodeN; rw [if_neg c1, if_neg (by omega), if_neg (by omega), if_neg (by omega)]
      rw [e]
      exact out 2 (by omega) (by omega) hn (by rw [if_neg (by omega), if_neg (by omega), if_pos (by omega)]; rfl)
  by_cases c4 : b0 < 240
  · by_cases hn : i + 3 ≤ s.size
    · have h1 := bt_get s (i + 1) (by omega)
      have h2 := bt_get s (i + 2) (by omega)
      have l1 : (s.get! (i + 1)).toNat < 256 := UInt8.toNat_lt _
      have l2 : (s.get! (i + 2)).toNat < 256 := UInt8.toNat_lt _
      generalize (s.get! (i + 1)).toNat = b1 at h1 l1 ⊢
      generalize (s.get! (i + 2)).toNat = b2 at h2 l2 ⊢
      refine start 3 (by omega) hn (by rw [if_neg (by omega), if_neg (by omega), if_neg (by omega), if_pos (by omega)]; rfl) _ (lead 3 16 (by omega) (by omega) (by rw [show wrap64 (7 - ((3 : Nat) : Int)) = 4 from wr _ (by decide) (by decide)]; decide) (by decide) (by rw [show wrap64 (7 - ((3 : Nat) : Int)) = 4 from wr _ (by decide) (by decide)]; decide) _ ?_)
      rw [Int.tmod_eq_emod_of_nonneg (by omega)]
      refine at_step s hs i 3 1 _ _ (by omega) hn (by omega) (by omega) ?_
      rw [h1]
      refine at_step s hs i 3 2 _ _ (by omega) hn (by omega) (by omega) ?_
      rw [h2]
      have en := at_end s hs i 3 (((b0 : Int) % 16 * 64 + (b1 : Int) % 64) * 64 + (b2 : Int) % 64) hn (decide (b1 / 64 = 2 ∧ b2 / 64 = 2 ∧ b0 % 16 * 4096 + b1 % 64 * 64 + b2 % 64 ≥ 2048 ∧ (b0 % 16 * 4096 + b1 % 64 * 64 + b2 % 64 < 55296 ∨ (57344 ≤ b0 % 16 * 4096 + b1 % 64 * 64 + b2 % 64 ∧ b0 % 16 * 4096 + b1 % 64 * 64 + b2 % 64 ≤ 1114111)))) ⟨fun hr => ?_, fun hr => ?_⟩
      · refine Ev.congr (fun k => rfl) (Eq.mp ?_ en)
        congr 1
        by_cases q1 : b1 / 64 = 2 ∧ b2 / 64 = 2
        · by_cases q2 : b0 % 16 * 4096 + b1 % 64 * 64 + b2 % 64 ≥ 2048 ∧ (b0 % 16 * 4096 + b1 % 64 * 64 + b2 % 64 < 55296 ∨ (57344 ≤ b0 % 16 * 4096 + b1 % 64 * 64 + b2 % 64 ∧ b0 % 16 * 4096 + b1 % 64 * 64 + b2 % 64 ≤ 1114111))
          · rw [if_pos (decide_eq_true ⟨q1.1, q1.2, q2⟩)]
            unfold Lib.decodeN
            rw [if_neg c1, if_neg (by omega), if_pos ⟨by omega, ⟨by omega, q1.1⟩, by omega, q1.2⟩, if_pos q2]
            unfold pairZ
            refine Prod.ext ?_ rfl
            show _ = (((b0 % 16 * 4096 + b1 % 64 * 64 + b2 % 64 : Nat)) : Int)
            omega
          · rw [if_neg (by rw [decide_eq_true_eq]; exact fun g => q2 g.2.2)]
            unfold Lib.decodeN
            rw [if_neg c1, if_neg (by omega), if_pos ⟨by omega, ⟨by omega, q1.1⟩, by omega, q1.2⟩, if_neg q2]; rfl
        · rw [if_neg (by rw [decide_eq_true_eq]; exact fun g => q1 ⟨g.1, g.2.1⟩)]
          unfold Lib.decodeN
          rw [if_neg c1, if_neg (by omega), if_neg (by omega), if_neg (by omega)]; rfl
      · obtain ⟨r0, r1, r2⟩ := (isR_iff _).1 hr
        rw [decide_eq_true_eq]
        unfold u8V
        constructor
        · rintro ⟨a1, a2⟩
          by_cases d1 : ((b0 : Int) % 16 * 64 + (b1 : Int) % 64) * 64 + (b2 : Int) % 64 < 128
          · rw [if_pos d1] at a1; simp at a1
          · rw [if_neg d1] at a1 a2
            by_cases d2 : ((b0 : Int) % 16 * 64 + (b1 : Int) % 64) * 64 + (b2 : Int) % 64 < 2048
            · rw [if_pos d2] at a1; simp at a1
            · rw [if_neg d2, if_pos (by omega)] at a2
              have p1 := a2 1 (by omega)
              have p2 := a2 2 (by omega)
              rw [h1] at p1
              rw [h2] at p2
              replace p1 : 128 + (((b0 : Int) % 16 * 64 + (b1 : Int) % 64) * 64 + (b2 : Int) % 64) / 64 % 64 = (b1 : Int) := p1
              replace p2 : 128 + (((b0 : Int) % 16 * 64 + (b1 : Int) % 64) * 64 + (b2 : Int) % 64) % 64 = (b2 : Int) := p2
              omega
        · rintro ⟨a1, a2, a3, a4⟩
          rw [if_neg (by omega), if_neg (by omega), if_pos (by omega)]
          refine ⟨rfl, fun k hk => ?_⟩
          rcases (by omega : k = 0 ∨ k = 1 ∨ k = 2) with rfl | rfl | rfl
          · show 224 + (((b0 : Int) % 16 * 64 + (b1 : Int) % 64) * 64 + (b2 : Int) % 64) / 4096 = _
            rw [Nat.add_zero, h0]; omega
          · show 128 + (((b0 : Int) % 16 * 64 + (b1 : Int) % 64) * 64 + (b2 : Int) % 64) / 64 % 64 = _
            rw [h1]; omega
          · show 128 + (((b0 : Int) % 16 * 64 + (b1 : Int) % 64) * 64 + (b2 : Int) % 64) % 64 = _
            rw [h2]; omega
      · rw [Bool.eq_false_iff, Ne, isR_iff] at hr
        apply decide_eq_false
        omega
    · have e : Lib.decodeN (s.size - i) b0 (s.get! (i + 1)).toNat (s.get! (i + 2)).toNat (s.get! (i + 3)).toNat = (65533, 1) := by
        unfold Lib.decodeN; rw [if_neg c1, if_neg (by omega), if_neg (by omega), if_neg (by omega)]
      rw [e]
      exact out 3 (by omega) (by omega) hn (by rw [if_neg (by omega), if_neg (by omega), if_neg (by omega), if_pos (by omega)]; rfl)
  by_cases c5 : b0 < 248
  · by_cases hn : i + 4 ≤ s.size
    · have h1 := bt_get s (i + 1) (by omega)
      have h2 := bt_get s (i + 2) (by omega)
      have h3 := bt_get s (i + 3) (by omega)
      have l1 : (s.get! (i + 1)).toNat < 256 := UInt8.toNat_lt _
      have l2 : (s.get! (i + 2)).toNat < 256 := UInt8.toNat_lt _
      have l3 : (s.get! (i + 3)).toNat < 256 := UInt8.toNat_lt _
      generalize (s.get! (i + 1)).toNat = b1 at h1 l1 ⊢
      generalize (s.get! (i + 2)).toNat = b2 at h2 l2 ⊢
      generalize (s.get! (i + 3)).toNat = b3 at h3 l3 ⊢
      refine start 4 (by omega) hn (by rw [if_neg (by omega), if_neg (by omega), if_neg (by omega), if_neg (by omega), if_pos (by omega)]; rfl) _ (lead 4 8 (by omega) (by omega) (by rw [show wrap64 (7 - ((4 : Nat) : Int)) = 3 from wr _ (by decide) (by decide)]; decide) (by decide) (by rw [show wrap64 (7 - ((4 : Nat) : Int)) = 3 from wr _ (by decide) (by decide)]; decide) _ ?_)
      rw [Int.tmod_eq_emod_of_nonneg (by omega)]
      refine at_step s hs i 4 1 _ _ (by omega) hn (by omega) (by omega) ?_
      rw [h1]
      refine at_step s hs i 4 2 _ _ (by omega) hn (by omega) (by omega) ?_
      rw [h2]
      refine at_step s hs i 4 3 _ _ (by omega) hn (by omega) (by omega) ?_
      rw [h3]
      have en := at_end s hs i 4 ((((b0 : Int) % 8 * 64 + (b1 : Int) % 64) * 64 + (b2 : Int) % 64) * 64 + (b3 : Int) % 64) hn (decide (b1 / 64 = 2 ∧ b2 / 64 = 2 ∧ b3 / 64 = 2 ∧ b0 % 8 * 262144 + b1 % 64 * 4096 + b2 % 64 * 64 + b3 % 64 ≥ 65536 ∧ b0 % 8 * 262144 + b1 % 64 * 4096 + b2 % 64 * 64 + b3 % 64 ≤ 1114111)) ⟨fun hr => ?_, fun hr => ?_⟩
      · refine Ev.congr (fun k => rfl) (Eq.mp ?_ en)
        congr 1
        by_cases q1 : b1 / 64 = 2 ∧ b2 / 64 = 2 ∧ b3 / 64 = 2
        · by_cases q2 : b0 % 8 * 262144 + b1 % 64 * 4096 + b2 % 64 * 64 + b3 % 64 ≥ 65536 ∧ b0 % 8 * 262144 + b1 % 64 * 4096 + b2 % 64 * 64 + b3 % 64 ≤ 1114111
          · rw [if_pos (decide_eq_true ⟨q1.1, q1.2.1, q1.2.2, q2⟩)]
            unfold Lib.decodeN
            rw [if_neg c1, if_neg (by omega), if_neg (by omega), if_pos ⟨by omega, ⟨by omega, q1.1⟩, ⟨by omega, q1.2.1⟩, by omega, q1.2.2⟩, if_pos (by omega)]
            unfold pairZ
            refine Prod.ext ?_ rfl
            show _ = (((b0 % 8 * 262144 + b1 % 64 * 4096 + b2 % 64 * 64 + b3 % 64 : Nat)) : Int)
            omega
          · rw [if_neg (by rw [decide_eq_true_eq]; exact fun g => q2 g.2.2.2)]
            unfold Lib.decodeN
            rw [if_neg c1, if_neg (by omega), if_neg (by omega), if_pos ⟨by omega, ⟨by omega, q1.1⟩, ⟨by omega, q1.2.1⟩, by omega, q1.2.2⟩, if_neg (by omega)]; rfl
        · rw [if_neg (by rw [decide_eq_true_eq]; exact fun g => q1 ⟨g.1, g.2.1, g.2.2.1⟩)]
          unfold Lib.decodeN
          rw [if_neg c1, if_neg (by omega), if_neg (by omega), if_neg (by omega)]; rfl
      · obtain ⟨r0, r1, r2⟩ := (isR_iff _).1 hr
        rw [decide_eq_true_eq]
        unfold u8V
        constructor
        · rintro ⟨a1, a2⟩
          by_cases d1 : (((b0 : Int) % 8 * 64 + (b1 : Int) % 64) * 64 + (b2 : Int) % 64) * 64 + (b3 : Int) % 64 < 128
          · rw [if_pos d1] at a1; simp at a1
          · rw [if_neg d1] at a1 a2
            by_cases d2 : (((b0 : Int) % 8 * 64 + (b1 : Int) % 64) * 64 + (b2 : Int) % 64) * 64 + (b3 : Int) % 64 < 2048
            · rw [if_pos d2] at a1; simp at a1
            · rw [if_neg d2] at a1 a2
              by_cases d3 : (((b0 : Int) % 8 * 64 + (b1 : Int) % 64) * 64 + (b2 : Int) % 64) * 64 + (b3 : Int) % 64 < 65536
              · rw [if_pos d3] at a1; simp at a1
              · rw [if_neg d3] at a2
                have p1 := a2 1 (by omega)
                have p2 := a2 2 (by omega)
                have p3 := a2 3 (by omega)
                rw [h1] at p1
                rw [h2] at p2
                rw [h3] at p3
                replace p1 : 128 + ((((b0 : Int) % 8 * 64 + (b1 : Int) % 64) * 64 + (b2 : Int) % 64) * 64 + (b3 : Int) % 64) / 4096 % 64 = (b1 : Int) := p1
                replace p2 : 128 + ((((b0 : Int) % 8 * 64 + (b1 : Int) % 64) * 64 + (b2 : Int) % 64) * 64 + (b3 : Int) % 64) / 64 % 64 = (b2 : Int) := p2
                replace p3 : 128 + ((((b0 : Int) % 8 * 64 + (b1 : Int) % 64) * 64 + (b2 : Int) % 64) * 64 + (b3 : Int) % 64) % 64 = (b3 : Int) := p3
                refine ⟨?_, ?_, ?_, ?_, ?_⟩ <;> omega
        · rintro ⟨a1, a2, a3, a4, a5⟩
          rw [if_neg (by omega), if_neg (by omega), if_neg (by omega)]
          refine ⟨rfl, fun k hk => ?_⟩
          rcases (by omega : k = 0 ∨ k = 1 ∨ k = 2 ∨ k = 3) with rfl | rfl | rfl | rfl
          · show 240 + ((((b0 : Int) % 8 * 64 + (b1 : Int) % 64) * 64 + (b2 : Int) % 64) * 64 + (b3 : Int) % 64) / 262144 = _
            rw [Nat.add_zero, h0]; omega
          · show 128 + ((((b0 : Int) % 8 * 64 + (b1 : Int) % 64) * 64 + (b2 : Int) % 64) * 64 + (b3 : Int) % 64) / 4096 % 64 = _
            rw [h1]; omega
          · show 128 + ((((b0 : Int) % 8 * 64 + (b1 : Int) % 64) * 64 + (b2 : Int) % 64) * 64 + (b3 : Int) % 64) / 64 % 64 = _
            rw [h2]; omega
          · show 128 + ((((b0 : Int) % 8 * 64 + (b1 : Int) % 64) * 64 + (b2 : Int) % 64) * 64 + (b3 : Int) % 64) % 64 = _
            rw [h3]; omega
      · rw [Bool.eq_false_iff, Ne, isR_iff] at hr
        apply decide_eq_false
        omega
    · have e : Lib.decodeN (s.size - i) b0 (s.get! (i + 1)).toNat (s.get! (i + 2)).toNat (s.get! (i + 3)).toNat = (65533, 1) := by
        unfold Lib.decodeN; rw [if_neg c1, if_neg (by omega), if_neg (by omega), if_neg (by omega)]
      rw [e]
      exact out 4 (by omega) (by omega) hn (by rw [if_neg (by omega), if_neg (by omega), if_neg (by omega), if_neg (by omega), if_pos (by omega)]; rfl)
  · have e : Lib.decodeN (s.size - i) b0 (s.get! (i + 1)).toNat (s.get! (i + 2)).toNat (s.get! (i + 3)).toNat = (65533, 1) := by
      unfold Lib.decodeN; rw [if_neg c1, if_neg (by omega), if_neg (by omega), if_neg (by omega)]
    rw [e]
    exact zero (by rw [if_neg (by omega), if_neg (by omega), if_neg (by omega), if_neg (by omega), if_neg (by omega)])
/-- The runes of a text from a place on. -/
def runesFrom (s : ByteArray) : Nat → Nat → List Int
  | 0, _ => []
  | f + 1, pos => if pos < s.size then ((Utf8.decode s pos).1 : Int) :: runesFrom s f (pos + (Utf8.decode s pos).2) else []
theorem runesFrom_end (s : ByteArray) (f pos : Nat) (h : ¬ pos < s.size) : runesFrom s f pos = [] := by
  cases f with
  | zero => rfl
  | succ f => simp [runesFrom, h]
theorem width_pos (s : ByteArray) (pos : Nat) (h : pos < s.size) : 1 ≤ (Utf8.decode s pos).2 := by
  by_cases ha : (s[pos]'h).toNat < 128
  · rw [decode_ascii s pos h ha]
    exact Nat.le_refl _
  · exact (decode_high s pos h (by omega)).2
theorem width_le (s : ByteArray) (i : Nat) : (Utf8.decode s i).2 ≤ 4 := by
  rw [Lib.decode_at]
  unfold Lib.decodeN
  repeat' split
  all_goals simp

theorem runesFrom_len (s : ByteArray) : ∀ f pos, (runesFrom s f pos).length ≤ f := by
  intro f
  induction f with
  | zero => intro pos; simp [runesFrom]
  | succ f ih =>
    intro pos
    rw [runesFrom]
    split
    · have := ih (pos + (Utf8.decode s pos).2)
      simp only [List.length_cons]; omega
    · simp

theorem runes_l (s : ByteArray) (hs : s.size ≤ 1000000) : ∀ (f pos : Nat) (acc : List Int), s.size ≤ pos + f → acc.length ≤ pos → pos ≤ s.size + 8 → Ev (fun k => spec_l1Runes.l0 k s acc (pos : Int)) (acc ++ runesFrom s f pos) := by
  intro f
  induction f with
  | zero =>
    intro pos acc h1 h2 h3
    refine Ev.step (f := fun _ => some (acc ++ runesFrom s 0 pos)) (fun k => ?_) (Ev.now _)
    simp only [spec_l1Runes.l0]
    rw [if_neg (by omega)]
    simp [runesFrom]
  | succ f ih =>
    intro pos acc h1 h2 h3
    by_cases hp : pos < s.size
    · have w1 := width_pos s pos hp
      have w4 := width_le s pos
      have e1 : wrap64 ((pos : Int) + ((Utf8.decode s pos).2 : Int)) = ((pos + (Utf8.decode s pos).2 : Nat) : Int) := by rw [wr _ (by omega) (by omega)]; omega
      have ih' := ih (pos + (Utf8.decode s pos).2) (acc ++ [((Utf8.decode s pos).1 : Int)]) (by omega) (by simp; omega) (by omega)
      rw [runesFrom, if_pos hp]
      refine Ev.step (fun k => by simp only [spec_l1Runes.l0]; rw [if_pos (by omega)]) ?_
      refine Ev.bind (at_ev s (by omega) pos hp) ?_
      refine Ev.congr (fun k => ?_) (by simpa using ih')
      rw [if_pos (by omega)]
      show spec_l1Runes.l0 k s (acc ++ [((Utf8.decode s pos).1 : Int)]) (wrap64 ((pos : Int) + ((Utf8.decode s pos).2 : Int))) = _
      rw [e1]
      simp
    · refine Ev.step (f := fun _ => some (acc ++ runesFrom s (f + 1) pos)) (fun k => ?_) (Ev.now _)
      simp only [spec_l1Runes.l0]
      rw [if_neg (by omega), runesFrom_end s (f + 1) pos hp]
      simp

theorem runes_ev (s : ByteArray) (hs : s.size ≤ 1000000) : Ev (fun k => spec_l1Runes.f k s) (runesFrom s s.size 0) :=
  Ev.congr (fun k => by unfold spec_l1Runes.f; rfl) (by simpa using runes_l s hs s.size 0 [] (by omega) (by simp) (by omega))
theorem str_append (a b : List Int) : strOfNums (a ++ b) = strOfNums a ++ strOfNums b := by
  apply ByteArray.ext
  rw [ByteArray.data_append]
  unfold strOfNums
  simp
theorem txt_append (a b : List Int) : txt (a ++ b) = txt a ++ txt b := by unfold txt; rw [List.flatMap_append]
theorem txt_len (l : List Int) : (txt l).length ≤ 4 * l.length := by
  unfold txt
  induction l with
  | nil => simp
  | cons x l ih =>
    have := u8V_length x
    rw [List.flatMap_cons, List.length_append, List.length_cons]; omega
/-- The text of runes. -/
def strR (l : List Int) : ByteArray := strOfNums (txt l)
theorem strR_append (a b : List Int) : strR (a ++ b) = strR a ++ strR b := by unfold strR; rw [txt_append, str_append]
theorem strR_size (l : List Int) : (strR l).size ≤ 4 * l.length := by unfold strR; rw [size_str]; exact txt_len l
/-- The runes that stand for one in a pattern's text. -/
def mkR (r : Int) : List Int := if r ∈ marksI then [92, r] else [r]
theorem mkR_len (r : Int) : (mkR r).length ≤ 2 := by unfold mkR; split <;> simp
theorem mkR_runes (r : Int) (h : isR r = true) : ∀ x ∈ mkR r, isR x = true := by
  intro x hx
  unfold mkR at hx
  split at hx
  · rcases List.mem_cons.1 hx with rfl | hx
    · decide
    · rw [List.mem_singleton.1 hx]; exact h
  · rw [List.mem_singleton.1 hx]; exact h
def pairsR : List Int → List Int
  | a :: b :: t => (if a = b then mkR a else mkR a ++ (45 :: mkR b)) ++ pairsR t
  | _ => []
theorem pairsR_len : ∀ l : List Int, (pairsR l).length ≤ 3 * l.length
  | [] => by simp [pairsR]
  | [_] => by simp [pairsR]
  | a :: b :: t => by
    have := pairsR_len t
    have h1 := mkR_len a
    have h2 := mkR_len b
    simp only [pairsR, List.length_append, List.length_cons]
    split
    · omega
    · simp only [List.length_append, List.length_cons]; omega
theorem pairsR_runes : ∀ l : List Int, (∀ x ∈ l, isR x = true) → ∀ x ∈ pairsR l, isR x = true
  | [], _, x, hx => by simp [pairsR] at hx
  | [_], _, x, hx => by simp [pairsR] at hx
  | a :: b :: t, h, x, hx => by
    have ha := h a (by simp)
    have hb := h b (by simp)
    simp only [pairsR, List.mem_append] at hx
    rcases hx with hx | hx
    · split at hx
      · exact mkR_runes a ha x hx
      · rcases List.mem_append.1 hx with hx | hx
        · exact mkR_runes a ha x hx
        · rcases List.mem_cons.1 hx with rfl | hx
          · decide
          · exact mkR_runes b hb x hx
    · exact pairsR_runes t (fun y hy => h y (by simp [hy])) x hx
def setR (s : List Int) : List Int :=
  if s = [0, 1114111] then [46] else if s.length = 2 ∧ s.getD 0 0 = s.getD 1 0 then mkR (s.getD 0 0) else 91 :: (pairsR s ++ [93])
theorem setR_len (s : List Int) (h : s.length ≤ 24) : (setR s).length ≤ 100 := by
  have h1 := pairsR_len s
  have h2 := mkR_len (s.getD 0 0)
  unfold setR
  repeat' split
  · simp
  · omega
  · simp only [List.length_cons, List.length_append, List.length_nil]; omega
theorem setR_runes (s : List Int) (h : ∀ x ∈ s, isR x = true) : ∀ x ∈ setR s, isR x = true := by
  intro x hx
  unfold setR at hx
  split at hx
  · rw [List.mem_singleton.1 hx]; decide
  · split at hx
    · rename_i h1 h2
      refine mkR_runes _ ?_ x hx
      match s, h2.1 with
      | [a, b], _ => exact h a (by simp)
    · rcases List.mem_cons.1 hx with rfl | hx
      · decide
      · rcases List.mem_append.1 hx with hx | hx
        · exact pairsR_runes s h x hx
        · rw [List.mem_singleton.1 hx]; decide
def midR (op : Int) : List Int := if op = 4 then [124] else if op = 5 then [38] else []
/-- The runes of a pattern's text. -/
def Pt.runes : Pt → List Int
  | .l n => if n.f0 = 1 then [40, 41] else setR n.f1
  | .u n a => if n.f0 = 6 then a.runes ++ [42] else [40, 126] ++ (a.runes ++ [41])
  | .b n x y => [40] ++ (x.runes ++ (midR n.f0 ++ (y.runes ++ [41])))
theorem leaf_set {n : S49} (h : setOk n = true) : n.f1.length ≤ 24 ∧ n.f1.length % 2 = 0 ∧ ∀ x ∈ n.f1, isR x = true := by
  simp only [setOk, Bool.and_eq_true] at h
  obtain ⟨h1, h2, _⟩ := h
  obtain ⟨g1, g2, _⟩ := goodS_facts _ h1
  exact ⟨g1, g2, List.all_eq_true.1 h2⟩
theorem Pt.runes_len : ∀ t : Pt, t.sets → t.runes.length ≤ 100 * t.flat.length
  | .l n, h => by
    have := setR_len n.f1 (leaf_set (Pt.sets_l.1 h)).1
    simp only [Pt.runes, Pt.flat, List.length_singleton]
    split
    · simp
    · omega
  | .u n a, h => by
    have := a.runes_len (Pt.sets_u.1 h).1
    simp only [Pt.runes, Pt.flat, List.length_append, List.length_singleton]
    split <;> simp only [List.length_append, List.length_cons, List.length_nil] <;> omega
  | .b n x y, h => by
    have h1 := x.runes_len (Pt.sets_b.1 h).1
    have h2 := y.runes_len (Pt.sets_b.1 h).2.1
    have h3 : (midR n.f0).length ≤ 1 := by unfold midR; (repeat' split) <;> simp
    simp only [Pt.runes, Pt.flat, List.length_append, List.length_singleton]; omega
theorem Pt.runes_good : ∀ t : Pt, t.sets → ∀ x ∈ t.runes, isR x = true
  | .l n, h, x, hx => by
    have := (leaf_set (Pt.sets_l.1 h)).2.2
    simp only [Pt.runes] at hx
    split at hx
    · simp only [List.mem_cons, List.not_mem_nil, or_false] at hx
      rcases hx with rfl | rfl <;> decide
    · exact setR_runes n.f1 this x hx
  | .u n a, h, x, hx => by
    have := a.runes_good (Pt.sets_u.1 h).1
    simp only [Pt.runes] at hx
    split at hx
    · rcases List.mem_append.1 hx with hx | hx
      · exact this x hx
      · rw [List.mem_singleton.1 hx]; decide
    · simp only [List.mem_append, List.mem_cons, List.not_mem_nil, or_false] at hx
      rcases hx with (rfl | rfl) | hx | rfl
      · decide
      · decide
      · exact this x hx
      · decide
  | .b n x y, h, z, hz => by
    have h1 := x.runes_good (Pt.sets_b.1 h).1
    have h2 := y.runes_good (Pt.sets_b.1 h).2.1
    simp only [Pt.runes, List.mem_append, List.mem_singleton] at hz
    rcases hz with rfl | hz | hz | hz | rfl
    · decide
    · exact h1 z hz
    · unfold midR at hz
      split at hz
      · rw [List.mem_singleton.1 hz]; decide
      · split at hz
        · rw [List.mem_singleton.1 hz]; decide
        · cases hz
    · exact h2 z hz
    · decide

/-! the reference -/
theorem has_l (l : List Int) (a : Int) (hl : l.length ≤ 1000000) : ∀ (d j : Nat), j + d = l.length → Ev (fun k => spec_l1Has.l0 k a l (l.length : Int) (j : Int)) (decide (a ∈ l.drop j)) := by
  intro d
  induction d with
  | zero =>
    intro j hj
    refine Ev.step (f := fun _ => some (decide (a ∈ l.drop j))) (fun k => ?_) (Ev.now _)
    simp only [spec_l1Has.l0]
    rw [if_neg (by omega), List.drop_of_length_le (by omega)]
    simp
  | succ d ih =>
    intro j hj
    have hj' : j < l.length := by omega
    rw [drop_at l j hj']
    by_cases e : l[j] = a
    · refine Ev.step (f := fun _ => some (decide (a ∈ l[j] :: l.drop (j + 1)))) (fun k => ?_) (Ev.now _)
      simp only [spec_l1Has.l0]
      rw [if_pos (by omega), if_pos (by omega), if_pos (by omega), rd_at l j hj', if_pos e, decide_eq_true (by rw [e]; simp)]
    · have e2 : decide (a ∈ l[j] :: l.drop (j + 1)) = decide (a ∈ l.drop (j + 1)) := by
        congr 1
        rw [List.mem_cons]
        exact propext ⟨fun h => h.resolve_left (fun g => e g.symm), Or.inr⟩
      rw [e2]
      refine Ev.step (fun k => ?_) (ih (j + 1) (by omega))
      simp only [spec_l1Has.l0]
      rw [if_pos (by omega), if_pos (by omega), if_pos (by omega), rd_at l j hj', if_neg e, wr _ (by omega) (by omega)]
      rfl
theorem marks_ev : Ev (fun k => spec_l5Marks.f k) marksI := by
  unfold spec_l5Marks.f
  have e : runesFrom (⟨#[40, 41, 91, 93, 124, 38, 126, 42, 46, 45, 92]⟩ : ByteArray) 11 0 = marksI := by decide +kernel
  have := runes_ev (⟨#[40, 41, 91, 93, 124, 38, 126, 42, 46, 45, 92]⟩ : ByteArray) (by decide)
  rw [show (⟨#[40, 41, 91, 93, 124, 38, 126, 42, 46, 45, 92]⟩ : ByteArray).size = 11 from rfl, e] at this
  exact Ev.bind this (Ev.now _)
theorem rune_ev (a : Int) : Ev (fun k => spec_l5Rune.f k a) (mkR a) := by
  unfold spec_l5Rune.f mkR
  refine Ev.bind marks_ev (Ev.bind (Ev.congr (fun k => by unfold spec_l1Has.f; rfl) (by simpa using has_l marksI a (by decide) marksI.length 0 (by omega))) ?_)
  by_cases h : a ∈ marksI
  · rw [if_pos h]
    exact Ev.congr (fun k => by rw [if_pos (by simpa using h)]) (Ev.now _)
  · rw [if_neg h]
    exact Ev.congr (fun k => by rw [if_neg (by simpa using h)]) (Ev.now _)
theorem ssame_l (a b : List Int) (hab : a.length = b.length) (hl : a.length ≤ 17592186044416) : ∀ (d j : Nat), j + d = a.length → a.take j = b.take j → Ev (fun k => spec_l1Same.l0 k a b (a.length : Int) (j : Int)) (decide (a = b)) := by
  intro d
  induction d with
  | zero =>
    intro j hj ht
    refine Ev.step (f := fun _ => some (decide (a = b))) (fun k => ?_) (Ev.now _)
    simp only [spec_l1Same.l0]
    rw [if_neg (by omega)]
    rw [List.take_of_length_le (by omega), List.take_of_length_le (by omega)] at ht
    simp [ht]
  | succ d ih =>
    intro j hj ht
    by_cases e : a[j]'(by omega) = b[j]'(by omega)
    · refine Ev.step (f := fun k => spec_l1Same.l0 k a b (a.length : Int) ((j + 1 : Nat) : Int)) (fun k => ?_) (ih (j + 1) (by omega) ?_)
      · simp only [spec_l1Same.l0]
        rw [if_pos (by omega), if_pos (by omega), if_pos (by omega), if_pos (by omega), rd_at a j (by omega), rd_at b j (by omega), if_pos e, wr _ (by omega) (by omega)]
        simp
      · rw [List.take_succ_eq_append_getElem (by omega), List.take_succ_eq_append_getElem (by omega), ht, e]
    · refine Ev.step (f := fun _ => some (decide (a = b))) (fun k => ?_) (Ev.now _)
      simp only [spec_l1Same.l0]
      rw [if_pos (by omega), if_pos (by omega), if_pos (by omega), if_pos (by omega), rd_at a j (by omega), rd_at b j (by omega), if_neg e]
      have : ¬ a = b := fun h => e (by subst h; rfl)
      simp [this]
theorem isame_l (a b : List Int) (hab : a.length = b.length) (hl : a.length ≤ 17592186044416) : ∀ (d j : Nat), j + d = a.length → a.take j = b.take j → Ev (fun k => slices_Equal_int_int.l0 k a b (a.length : Int) (j : Int)) (decide (a = b)) := by
  intro d
  induction d with
  | zero =>
    intro j hj ht
    refine Ev.step (f := fun _ => some (decide (a = b))) (fun k => ?_) (Ev.now _)
    simp only [slices_Equal_int_int.l0]
    rw [if_neg (by omega)]
    rw [List.take_of_length_le (by omega), List.take_of_length_le (by omega)] at ht
    simp [ht]
  | succ d ih =>
    intro j hj ht
    by_cases e : a[j]'(by omega) = b[j]'(by omega)
    · refine Ev.step (f := fun k => slices_Equal_int_int.l0 k a b (a.length : Int) ((j + 1 : Nat) : Int)) (fun k => ?_) (ih (j + 1) (by omega) ?_)
      · simp only [slices_Equal_int_int.l0]
        rw [if_pos (by omega), if_pos (by omega), if_pos (by omega), if_pos (by omega), rd_at a j (by omega), rd_at b j (by omega), if_pos e, wr _ (by omega) (by omega)]
        simp
      · rw [List.take_succ_eq_append_getElem (by omega), List.take_succ_eq_append_getElem (by omega), ht, e]
    · refine Ev.step (f := fun _ => some (decide (a = b))) (fun k => ?_) (Ev.now _)
      simp only [slices_Equal_int_int.l0]
      rw [if_pos (by omega), if_pos (by omega), if_pos (by omega), if_pos (by omega), rd_at a j (by omega), rd_at b j (by omega), if_neg e]
      have : ¬ a = b := fun h => e (by subst h; rfl)
      simp [this]
theorem ssame_ev (a b : List Int) (hl : a.length ≤ 17592186044416) : Ev (fun k => spec_l1Same.f k a b) (decide (a = b)) := by
  by_cases h : a.length = b.length
  · exact Ev.congr (fun k => by unfold spec_l1Same.f; rw [if_pos (by omega)]; rfl) (ssame_l a b h hl a.length 0 (by omega) (by simp))
  · have : ¬ a = b := fun e => h (by rw [e])
    rw [decide_eq_false this]
    exact Ev.congr (fun k => by unfold spec_l1Same.f; rw [if_neg (by omega)]) (Ev.now _)
theorem isame_ev (a b : List Int) (hl : a.length ≤ 17592186044416) : Ev (fun k => slices_Equal_int_int.f k a b) (decide (a = b)) := by
  by_cases h : a.length = b.length
  · exact Ev.congr (fun k => by unfold slices_Equal_int_int.f; rw [if_pos (by omega)]; rfl) (isame_l a b h hl a.length 0 (by omega) (by simp))
  · have : ¬ a = b := fun e => h (by rw [e])
    rw [decide_eq_false this]
    exact Ev.congr (fun k => by unfold slices_Equal_int_int.f; rw [if_neg (by omega)]) (Ev.now _)
theorem setS_l (s : List Int) (hl : s.length ≤ 24) (he : s.length % 2 = 0) : ∀ (d j : Nat) (acc : List Int), j + 2 * d = s.length → acc.length ≤ 5 * j + 1 → Ev (fun k => spec_l5SetRunes.l0 k s acc (j : Int)) (acc ++ (pairsR (s.drop j) ++ [93])) := by
  intro d
  induction d with
  | zero =>
    intro j acc hj ha
    refine Ev.step (f := fun _ => some (acc ++ (pairsR (s.drop j) ++ [93]))) (fun k => ?_) (Ev.now _)
    simp only [spec_l5SetRunes.l0]
    rw [if_neg (by omega), if_pos (by omega), List.drop_of_length_le (by omega)]
    simp [pairsR]
  | succ d ih =>
    intro j acc hj ha
    have h1 : j < s.length := by omega
    have h2 : j + 1 < s.length := by omega
    have e1 : wrap64 ((j : Int) + 1) = ((j + 1 : Nat) : Int) := by rw [wr _ (by omega) (by omega)]; omega
    have e2 : wrap64 ((j : Int) + 2) = ((j + 2 : Nat) : Int) := by rw [wr _ (by omega) (by omega)]; omega
    have m1 := mkR_len s[j]
    have m2 := mkR_len s[j + 1]
    rw [drop_at s j h1, drop_at s (j + 1) h2]
    refine Ev.step (fun k => by simp only [spec_l5SetRunes.l0]; rw [if_pos (by omega), if_pos (by omega), rd_at s j h1]) (Ev.bind (rune_ev s[j]) ?_)
    refine Ev.congr (fun k => by rw [if_pos (by omega), Option.bind_some, e1, e2, if_pos (by omega), if_pos (by omega), rd_at s (j + 1) h2]) ?_
    by_cases e : s[j] = s[j + 1]
    · refine Ev.congr (fun k => by rw [if_pos e]) ?_
      have := ih (j + 2) (acc ++ mkR s[j]) (by omega) (by simp only [List.length_append]; omega)
      simp only [pairsR]
      rw [if_pos e]
      simpa only [List.append_assoc] using this
    · refine Ev.congr (fun k => by rw [if_neg e, if_pos (by simp only [List.length_append]; omega), Option.bind_some]) (Ev.bind (rune_ev s[j + 1]) ?_)
      refine Ev.congr (fun k => by rw [if_pos (by simp only [List.length_append, List.length_singleton]; omega)]) ?_
      have := ih (j + 2) (acc ++ mkR s[j] ++ [45] ++ mkR s[j + 1]) (by omega) (by simp only [List.length_append, List.length_singleton]; omega)
      simp only [pairsR]
      rw [if_neg e]
      simpa only [List.append_assoc, List.cons_append, List.nil_append, List.singleton_append] using this
theorem setS_ev (s : List Int) (hl : s.length ≤ 24) (he : s.length % 2 = 0) : Ev (fun k => spec_l5SetRunes.f k s) (setR s) := by
  have loop : Ev (fun k => spec_l5SetRunes.j0 k s false) (91 :: (pairsR s ++ [93])) := by
    refine Ev.step (fun k => by simp only [spec_l5SetRunes.j0]; rw [if_neg (by simp)]) ?_
    have := setS_l s hl he (s.length / 2) 0 [91] (by omega) (by simp)
    simpa using this
  unfold spec_l5SetRunes.f setR
  refine Ev.bind (ssame_ev s [0, 1114111] (by omega)) ?_
  by_cases h : s = [0, 1114111]
  · rw [if_pos h]
    exact Ev.congr (fun k => by rw [if_pos (decide_eq_true h)]) (Ev.now _)
  · rw [if_neg h]
    refine Ev.congr (fun k => by rw [if_neg (by simpa using h)]) ?_
    by_cases h2 : s.length = 2
    · have g0 : rd s 0 = s.getD 0 0 := rd_nat s 0
      have g1 : rd s 1 = s.getD 1 0 := rd_nat s 1
      refine Ev.congr (fun k => by rw [if_pos (by omega), if_pos (by omega), if_pos (by omega), g0, g1]) ?_
      by_cases e : s.getD 0 0 = s.getD 1 0
      · rw [if_pos ⟨h2, e⟩]
        refine Ev.congr (fun k => by rw [show (s.getD 0 0 == s.getD 1 0) = true from beq_iff_eq.mpr e]) ?_
        refine Ev.step (fun k => by simp only [spec_l5SetRunes.j0]; rw [if_pos trivial, if_pos (by omega), g0]) (Ev.bind (rune_ev _) (Ev.now _))
      · rw [if_neg (fun g => e g.2)]
        exact Ev.congr (fun k => by rw [show (s.getD 0 0 == s.getD 1 0) = false from beq_eq_false_iff_ne.mpr e]) loop
    · rw [if_neg (fun g => h2 g.1)]
      exact Ev.congr (fun k => by rw [if_neg (by omega)]) loop
theorem ar0 {a : Int} (h : arV a = 0) : a = 1 ∨ a = 2 := by unfold arV at h; repeat' split at h <;> first | omega | (left; assumption) | (right; assumption)
theorem ar1 {a : Int} (h : arV a = 1) : a = 6 ∨ a = 7 := by unfold arV at h; repeat' split at h <;> first | omega | (left; assumption) | (right; assumption)
theorem ar2 {a : Int} (h : arV a = 2) : a = 3 ∨ a = 4 ∨ a = 5 := by unfold arV at h; repeat' split at h <;> first | omega | (left; assumption) | (right; left; assumption) | (right; right; assumption)
theorem specRunes_ev (L : List S49) (hL : L.length ≤ 1000) : ∀ (t : Pt), t.ok → t.sets → ∀ (pre post : List S49), L = pre ++ (t.flat ++ post) → Ev (fun k => spec_l5Runes.f k L ((pre.length : Int) + (t.flat.length : Int) - 1)) t.runes := by
  intro t
  induction t with
  | l n =>
    intro ho hs pre post e
    have ho' : arV n.f0 = 0 := ho
    have e2 : L = pre ++ (n :: post) := by simpa [Pt.flat] using e
    have hl : pre.length < L.length := by rw [e2]; simp
    have ei : (pre.length : Int) + ((Pt.l n).flat.length : Int) - 1 = (pre.length : Int) := by simp only [Pt.flat, List.length_singleton]; omega
    obtain ⟨g1, g2, _⟩ := leaf_set (Pt.sets_l.1 hs)
    rw [ei]
    refine Ev.step (fun k => by simp only [spec_l5Runes.f]; rw [if_pos (by omega), if_pos (by omega), rd_root pre post n L _ e2 rfl]) ?_
    simp only [Pt.runes]
    rcases ar0 ho' with h | h
    · rw [if_pos h]
      exact Ev.congr (fun k => by rw [if_pos h]) (Ev.now _)
    · rw [if_neg (by omega)]
      exact Ev.congr (fun k => by rw [if_neg (by omega), if_pos h]) (Ev.bind (setS_ev n.f1 g1 g2) (Ev.now _))
  | u n a ih =>
    intro ho hs pre post e
    have ho' : arV n.f0 = 1 := ho.1
    have e2 : L = (pre ++ a.flat) ++ (n :: post) := by simpa [Pt.flat] using e
    have hl : (pre ++ a.flat).length < L.length := by rw [e2]; simp
    have ha := a.flat_pos
    have ei : (pre.length : Int) + ((Pt.u n a).flat.length : Int) - 1 = ((pre ++ a.flat).length : Int) := by simp only [Pt.flat, List.length_append, List.length_singleton]; omega
    have hsa := (Pt.sets_u.1 hs).1
    have hla := a.runes_len hsa
    have hl2 := hl
    simp only [List.length_append] at hl2
    have ew : wrap64 (((pre ++ a.flat).length : Int) - 1) = (pre.length : Int) + (a.flat.length : Int) - 1 := by rw [wr _ (by omega) (by omega)]; simp
    have ia := ih ho.2 hsa pre (n :: post) (by simpa [Pt.flat] using e)
    rw [ei]
    refine Ev.step (fun k => by simp only [spec_l5Runes.f]; rw [if_pos (by omega), if_pos (by omega), rd_root (pre ++ a.flat) post n L _ e2 rfl, ew]) ?_
    simp only [Pt.runes]
    rcases ar1 ho' with h | h
    · rw [if_pos h]
      refine Ev.congr (fun k => by rw [if_neg (by omega), if_neg (by omega), if_pos h]) (Ev.bind ia ?_)
      exact Ev.congr (fun k => by rw [if_pos (by omega)]) (Ev.now _)
    · rw [if_neg (by omega)]
      refine Ev.congr (fun k => by rw [if_neg (by omega), if_neg (by omega), if_neg (by omega), if_pos h, Option.bind_some]) (Ev.bind ia ?_)
      refine Ev.congr (fun k => by rw [if_pos (by simp only [List.length_cons, List.length_nil]; omega), Option.bind_some, if_pos (by simp only [List.length_append, List.length_cons, List.length_nil]; omega)]) ?_
      simpa using Ev.now _
  | b n x y ihx ihy =>
    intro ho hs pre post e
    have ho' : arV n.f0 = 2 := ho.1
    have e2 : L = (pre ++ (x.flat ++ y.flat)) ++ (n :: post) := by simpa [Pt.flat] using e
    have hl : (pre ++ (x.flat ++ y.flat)).length < L.length := by rw [e2]; simp
    have hx := x.flat_pos
    have hy := y.flat_pos
    have ei : (pre.length : Int) + ((Pt.b n x y).flat.length : Int) - 1 = ((pre ++ (x.flat ++ y.flat)).length : Int) := by simp only [Pt.flat, List.length_append, List.length_singleton]; omega
    have hl2 := hl
    simp only [List.length_append] at hl2
    have hlx := x.runes_len (Pt.sets_b.1 hs).1
    have hly := y.runes_len (Pt.sets_b.1 hs).2.1
    have ew : wrap64 (((pre ++ (x.flat ++ y.flat)).length : Int) - 1) = ((pre ++ x.flat).length : Int) + (y.flat.length : Int) - 1 := by rw [wr _ (by omega) (by omega)]; simp; omega
    have hf : Ev (fun k => spec_l5First.f k L ((pre ++ (x.flat ++ y.flat)).length : Int)) ((pre.length : Int) + (x.flat.length : Int) - 1) := by
      have := first_ev pre post n x y ho.2.2 (by simp only [List.length_append, List.length_cons] at hl ⊢; have := congrArg List.length e; simp only [Pt.flat, List.length_append, List.length_singleton] at this; omega)
      refine Ev.congr (fun k => ?_) this
      rw [e]
      simp [Pt.flat]
      congr 1
      omega
    have hpx := ihx ho.2.1 (Pt.sets_b.1 hs).1 pre (y.flat ++ n :: post) (by simpa [Pt.flat] using e)
    have hpy := ihy ho.2.2 (Pt.sets_b.1 hs).2.1 (pre ++ x.flat) (n :: post) (by simpa [Pt.flat] using e)
    rw [← ew] at hpy
    rw [ei]
    refine Ev.step (fun k => by simp only [spec_l5Runes.f]; rw [if_pos (by omega), if_pos (by omega), rd_root (pre ++ (x.flat ++ y.flat)) post n L _ e2 rfl]) ?_
    refine Ev.congr (fun k => by rw [if_neg (by rcases ar2 ho' with h | h | h <;> omega), if_neg (by rcases ar2 ho' with h | h | h <;> omega), if_neg (by rcases ar2 ho' with h | h | h <;> omega), if_neg (by rcases ar2 ho' with h | h | h <;> omega), Option.bind_some]) (Ev.bind hf (Ev.bind hpx ?_))
    refine Ev.congr (fun k => by rw [if_pos (by simp only [List.length_singleton]; omega), Option.bind_some]) ?_
    simp only [Pt.runes, midR]
    rcases ar2 ho' with h | h | h
    · rw [if_neg (by omega), if_neg (by omega)]
      refine Ev.congr (fun k => by rw [if_neg (by omega), if_neg (by omega)]) (Ev.bind hpy ?_)
      refine Ev.congr (fun k => by rw [if_pos (by simp only [List.length_append, List.length_singleton]; omega), Option.bind_some, if_pos (by simp only [List.length_append, List.length_singleton]; omega)]) ?_
      simpa using Ev.now _
    · rw [if_pos h]
      refine Ev.congr (fun k => by rw [if_pos h, if_pos (by simp only [List.length_append, List.length_singleton]; omega), Option.bind_some]) (Ev.bind hpy ?_)
      refine Ev.congr (fun k => by rw [if_pos (by simp only [List.length_append, List.length_singleton]; omega), Option.bind_some, if_pos (by simp only [List.length_append, List.length_singleton]; omega)]) ?_
      simpa using Ev.now _
    · rw [if_neg (by omega), if_pos h]
      refine Ev.congr (fun k => by rw [if_neg (by omega), if_pos h, if_pos (by simp only [List.length_append, List.length_singleton]; omega), Option.bind_some]) (Ev.bind hpy ?_)
      refine Ev.congr (fun k => by rw [if_pos (by simp only [List.length_append, List.length_singleton]; omega), Option.bind_some, if_pos (by simp only [List.length_append, List.length_singleton]; omega)]) ?_
      simpa using Ev.now _

/-! the program -/
theorem runeText_v (a : Int) (h : isR a = true) : impl_runeText.f a = some (strR (mkR a)) := by
  obtain ⟨h0, h1, h2⟩ := isR_range a h
  have hm : impl_isMarkOf.f (⟨#[40, 41, 91, 93, 124, 38, 126, 42, 46, 45, 92]⟩ : ByteArray) a = some (decide (a ∈ marksI)) := by
    unfold impl_isMarkOf.f
    rw [if_pos (show (⟨#[40, 41, 91, 93, 124, 38, 126, 42, 46, 45, 92]⟩ : ByteArray).data = marksA from rfl), if_pos h0, if_pos h1, if_neg h2]
  have e1 : strR [a] = strOfNums (u8V a) := by unfold strR txt; simp
  have hz := strR_size [a]
  unfold impl_runeText.f mkR
  rw [hm, Option.bind_some, u8_i a h, Option.bind_some, Option.bind_some, ← e1]
  by_cases c : a ∈ marksI
  · rw [if_pos (decide_eq_true c), if_pos c, if_pos (by simp only [List.length_singleton] at hz; omega), show ([92, a] : List Int) = [92] ++ [a] from rfl, strR_append]
    rfl
  · rw [if_neg (by simpa using c), if_neg c]
def spR : List S92 → List Int
  | [] => []
  | x :: t => (if x.f0 = x.f1 then mkR x.f0 else mkR x.f0 ++ (45 :: mkR x.f1)) ++ spR t
theorem pairs_sp : ∀ s : List Int, pairsR s = spR (spansV s)
  | [] => rfl
  | [_] => rfl
  | a :: b :: t => by simp only [pairsR, spansV, spR, pairs_sp t]
theorem spans_runes : ∀ s : List Int, (∀ x ∈ s, isR x = true) → ∀ x ∈ spansV s, isR x.f0 = true ∧ isR x.f1 = true
  | [], _, x, hx => by simp [spansV] at hx
  | [_], _, x, hx => by simp [spansV] at hx
  | a :: b :: t, h, x, hx => by
    simp only [spansV] at hx
    rcases List.mem_cons.1 hx with rfl | hx
    · exact ⟨h a (by simp), h b (by simp)⟩
    · exact spans_runes t (fun y hy => h y (by simp [hy])) x hx
theorem strR45 : (⟨#[45]⟩ : ByteArray) = strR [45] := rfl
theorem strR93 : (⟨#[93]⟩ : ByteArray) = strR [93] := rfl
theorem strR91 : (⟨#[91]⟩ : ByteArray) = strR [91] := rfl
theorem pairsI_l (l : List S92) (hl : l.length ≤ 24) (hr : ∀ x ∈ l, isR x.f0 = true ∧ isR x.f1 = true) : ∀ (d j : Nat) (acc : List Int), j + d = l.length → acc.length ≤ 10 * j + 1 → Ev (fun k => impl_setText.l0 k (strR acc) l (l.length : Int) (j : Int)) (strR (acc ++ (spR (l.drop j) ++ [93]))) := by
  intro d
  induction d with
  | zero =>
    intro j acc hj ha
    have hz := strR_size acc
    refine Ev.step (f := fun _ => some (strR (acc ++ (spR (l.drop j) ++ [93])))) (fun k => ?_) (Ev.now _)
    simp only [impl_setText.l0]
    rw [if_neg (by omega), if_pos (by omega), List.drop_of_length_le (by omega), strR93, ← strR_append]
    rfl
  | succ d ih =>
    intro j acc hj ha
    have h1 : j < l.length := by omega
    obtain ⟨g0, g1⟩ := hr l[j] (List.getElem_mem _)
    have e1 : wrap64 ((j : Int) + 1) = ((j + 1 : Nat) : Int) := by rw [wr _ (by omega) (by omega)]; omega
    have z0 := strR_size acc
    have z1 := strR_size (mkR l[j].f0)
    have z2 := strR_size (mkR l[j].f1)
    have m1 := mkR_len l[j].f0
    have m2 := mkR_len l[j].f1
    rw [List.drop_eq_getElem_cons h1]
    by_cases e : l[j].f0 = l[j].f1
    · have := ih (j + 1) (acc ++ mkR l[j].f0) (by omega) (by simp only [List.length_append]; omega)
      rw [strR_append] at this
      simp only [spR]
      rw [if_pos e]
      refine Ev.step (fun k => ?_) (by simpa only [List.append_assoc] using this)
      simp only [impl_setText.l0]
      rw [if_pos (by omega), if_pos (by omega), if_pos (by omega), rdS_at l j h1, runeText_v _ g0, Option.bind_some, if_pos (by omega), if_pos e, e1]
    · have := ih (j + 1) (acc ++ mkR l[j].f0 ++ ([45] ++ mkR l[j].f1)) (by omega) (by simp only [List.length_append, List.length_singleton]; omega)
      rw [strR_append, strR_append acc, strR_append [45]] at this
      simp only [spR]
      rw [if_neg e]
      refine Ev.step (fun k => ?_) (by simpa only [List.append_assoc, List.cons_append, List.nil_append] using this)
      simp only [impl_setText.l0]
      rw [if_pos (by omega), if_pos (by omega), if_pos (by omega), rdS_at l j h1, runeText_v _ g0, Option.bind_some, if_pos (by omega), if_neg e, runeText_v _ g1, Option.bind_some, if_pos (by omega), strR45, if_pos (by rw [← strR_append, ← strR_append]; have := strR_size (acc ++ mkR l[j].f0); have := strR_size ([45] ++ mkR l[j].f1); simp only [List.length_append, List.length_singleton] at *; omega), e1]
theorem setI_ev (s : List Int) (hl : s.length ≤ 24) (hr : ∀ x ∈ s, isR x = true) : Ev (fun k => impl_setText.f k s) (strR (setR s)) := by
  have hsp := spansV_length s
  have loop : Ev (fun k => impl_setText.j0 k s) (strR (91 :: (pairsR s ++ [93]))) := by
    refine Ev.step (fun k => by simp only [impl_setText.j0]; rfl) (Ev.bind (spansOf_ev s (by omega)) ?_)
    have := pairsI_l (spansV s) (by omega) (spans_runes s hr) (spansV s).length 0 [91] (by omega) (by simp)
    rw [pairs_sp]
    exact Ev.congr (fun k => by rw [strR91]) (by simpa using this)
  unfold impl_setText.f setR
  refine Ev.bind (isame_ev s [0, 1114111] (by omega)) ?_
  by_cases h : s = [0, 1114111]
  · rw [if_pos h]
    exact Ev.congr (fun k => by rw [if_pos (decide_eq_true h)]; rfl) (Ev.now (strR [46]))
  · rw [if_neg h]
    refine Ev.congr (fun k => by rw [if_neg (by simpa using h)]) ?_
    by_cases h2 : s.length = 2
    · have g0 : rd s 0 = s.getD 0 0 := rd_nat s 0
      have g1 : rd s 1 = s.getD 1 0 := rd_nat s 1
      refine Ev.congr (fun k => by rw [if_pos (by omega), if_pos (by omega), if_pos (by omega), g0, g1]) ?_
      by_cases e : s.getD 0 0 = s.getD 1 0
      · rw [if_pos ⟨h2, e⟩]
        have hg : isR (s.getD 0 0) = true := by
          match s, h2 with
          | [a, b], _ => exact hr a (by simp)
        exact Ev.congr (fun k => by rw [if_pos e, runeText_v _ hg, Option.bind_some]) (Ev.now _)
      · rw [if_neg (fun g => e g.2)]
        exact Ev.congr (fun k => by rw [if_neg e]) loop
    · rw [if_neg (fun g => h2 g.1)]
      exact Ev.congr (fun k => by rw [if_neg (by omega)]) loop
theorem cat3 (a b c : List Int) : strR (a ++ (b ++ c)) = strR a ++ strR b ++ strR c := by rw [← List.append_assoc, strR_append, strR_append]
theorem reText_ev : ∀ (t : Pt), t.ok → t.sets → t.flat.length ≤ 1000 → Ev (fun k => impl_reText.f k t.flat) (strR t.runes)
  | .l n, ho, hs, _ => by
    have ho' : arV n.f0 = 0 := ho
    obtain ⟨g1, g2, g3⟩ := leaf_set (Pt.sets_l.1 hs)
    have er := rd_root [] [] n [n] 0 rfl rfl
    refine Ev.step (fun k => by simp only [impl_reText.f]; rfl) (Ev.bind (splitL_ev n ho') ?_)
    simp only [Pt.runes]
    rcases ar0 ho' with h | h
    · rw [if_pos h]
      exact Ev.congr (fun k => by rw [if_pos h]; rfl) (Ev.now (strR [40, 41]))
    · rw [if_neg (by omega)]
      refine Ev.congr (fun k => by rw [if_neg (by omega), if_pos h, show wrap64 ((((Pt.l n).flat).length : Int) - 1) = 0 from (by have e_ : (Pt.l n).flat.length = 1 := rfl; rw [e_, wr _ (by omega) (by omega)]; rfl), if_pos (by omega), if_pos (by simp [Pt.flat]), show (Pt.l n).flat = [n] from rfl, er]) (Ev.bind (setI_ev n.f1 g1 g3) (Ev.now _))
  | .u n a, ho, hs, hl => by
    have ho' : arV n.f0 = 1 := ho.1
    have hl' := hl
    simp only [Pt.flat, List.length_append, List.length_singleton] at hl'
    have hsa := (Pt.sets_u.1 hs).1
    have ia := reText_ev a ho.2 hsa (by omega)
    have z := strR_size a.runes
    have zl := a.runes_len hsa
    refine Ev.step (fun k => by simp only [impl_reText.f]; rfl) (Ev.bind (splitU_ev n a ho' hl) ?_)
    simp only [Pt.runes]
    rcases ar1 ho' with h | h
    · rw [if_pos h, strR_append]
      refine Ev.congr (fun k => by rw [if_neg (by omega), if_neg (by omega), if_pos h]) (Ev.bind ia ?_)
      exact Ev.congr (fun k => by rw [if_pos (by omega)]; rfl) (Ev.now (strR a.runes ++ strR [42]))
    · rw [if_neg (by omega), cat3]
      refine Ev.congr (fun k => by rw [if_neg (by omega), if_neg (by omega), if_neg (by omega), if_pos h]) (Ev.bind ia ?_)
      exact Ev.congr (fun k => by rw [if_pos (by omega), if_pos (by rw [ByteArray.size_append, show (⟨#[40, 126]⟩ : ByteArray).size = 2 from rfl]; omega)]; rfl) (Ev.now (strR [40, 126] ++ strR a.runes ++ strR [41]))
  | .b n x y, ho, hs, hl => by
    have ho' : arV n.f0 = 2 := ho.1
    have hl' := hl
    simp only [Pt.flat, List.length_append, List.length_singleton] at hl'
    have ix := reText_ev x ho.2.1 (Pt.sets_b.1 hs).1 (by omega)
    have iy := reText_ev y ho.2.2 (Pt.sets_b.1 hs).2.1 (by omega)
    have zx := strR_size x.runes
    have zy := strR_size y.runes
    have zlx := x.runes_len (Pt.sets_b.1 hs).1
    have zly := y.runes_len (Pt.sets_b.1 hs).2.1
    have s1 : ∀ c : UInt8, (⟨#[c]⟩ : ByteArray).size = 1 := fun _ => rfl
    refine Ev.step (fun k => by simp only [impl_reText.f]; rfl) (Ev.bind (splitB_ev n x y ho hl) ?_)
    simp only [Pt.runes, midR]
    rcases ar2 ho' with h | h | h
    · rw [if_neg (by omega), if_neg (by omega), List.nil_append, ← List.append_assoc, cat3, strR_append]
      refine Ev.congr (fun k => by rw [if_neg (by omega), if_neg (by omega), if_neg (by omega), if_neg (by omega), if_neg (by omega), if_neg (by omega)]) (Ev.bind ix ?_)
      refine Ev.congr (fun k => by rw [if_pos (by omega)]) (Ev.bind iy ?_)
      exact Ev.congr (fun k => by rw [if_pos (by rw [ByteArray.size_append, s1]; omega), if_pos (by rw [ByteArray.size_append, ByteArray.size_append, s1]; omega)]; rfl) (Ev.now (strR [40] ++ strR x.runes ++ strR y.runes ++ strR [41]))
    · rw [if_pos h, ← List.append_assoc, ← List.append_assoc, cat3, strR_append, strR_append]
      refine Ev.congr (fun k => by rw [if_neg (by omega), if_neg (by omega), if_neg (by omega), if_neg (by omega), if_pos h]) (Ev.bind ix ?_)
      refine Ev.congr (fun k => by rw [if_pos (by omega), if_pos (by rw [ByteArray.size_append, s1]; omega)]) (Ev.bind iy ?_)
      exact Ev.congr (fun k => by rw [if_pos (by rw [ByteArray.size_append, ByteArray.size_append, s1, s1]; omega), if_pos (by rw [ByteArray.size_append, ByteArray.size_append, ByteArray.size_append, s1, s1]; omega)]; rfl) (Ev.now (strR [40] ++ strR x.runes ++ strR [124] ++ strR y.runes ++ strR [41]))
    · rw [if_neg (by omega), if_pos h, ← List.append_assoc, ← List.append_assoc, cat3, strR_append, strR_append]
      refine Ev.congr (fun k => by rw [if_neg (by omega), if_neg (by omega), if_neg (by omega), if_neg (by omega), if_neg (by omega), if_pos h]) (Ev.bind ix ?_)
      refine Ev.congr (fun k => by rw [if_pos (by omega), if_pos (by rw [ByteArray.size_append, s1]; omega)]) (Ev.bind iy ?_)
      exact Ev.congr (fun k => by rw [if_pos (by rw [ByteArray.size_append, ByteArray.size_append, s1, s1]; omega), if_pos (by rw [ByteArray.size_append, ByteArray.size_append, ByteArray.size_append, s1, s1]; omega)]; rfl) (Ev.now (strR [40] ++ strR x.runes ++ strR [38] ++ strR y.runes ++ strR [41]))
theorem reText_both (l : List S49) (hl : l.length ≤ 1048576) (hr : ∀ x ∈ l, x.f1.length ≤ 1048576) : ∃ R : ByteArray × Bool, Ev (fun k => spec_ReText.f k l) R ∧ Ev (fun k => impl_ReText.f k l) R := by
  have hs := specGoodRe_ev l hl hr
  have hi := implGoodRe_ev l hl hr
  cases hg : GoodRV l with
  | false =>
    rw [hg] at hs hi
    refine ⟨((⟨#[]⟩ : ByteArray), false), ?_, ?_⟩
    · unfold spec_ReText.f
      exact Ev.bind hs (Ev.congr (fun k => by rw [if_neg (by simp)]) (Ev.now _))
    · unfold impl_ReText.f
      exact Ev.bind hi (Ev.congr (fun k => by rw [if_neg (by simp)]) (Ev.now _))
  | true =>
    rw [hg] at hs hi
    obtain ⟨t, ho, hst, e, h40⟩ := good_tree hg
    subst e
    have hrl := t.runes_len hst
    have hpos := t.flat_pos
    refine ⟨if ((strR t.runes).size : Int) > 1000 then ((⟨#[]⟩ : ByteArray), false) else (strR t.runes, true), ?_, ?_⟩
    · unfold spec_ReText.f
      refine Ev.bind hs (Ev.congr (fun k => by rw [if_pos rfl]) ?_)
      have := specRunes_ev t.flat (by omega) t ho hst [] [] (by simp)
      refine Ev.bind (Ev.congr (fun k => ?_) this) (Ev.bind (specText_ev t.runes (by omega) (t.runes_good hst)) ?_)
      · rw [wr _ (by omega) (by omega)]; simp
      · show Ev (fun k => if ((strR t.runes).size : Int) > 1000 then some ((⟨#[]⟩ : ByteArray), false) else some (strR t.runes, true)) _
        split <;> exact Ev.now _
    · unfold impl_ReText.f
      refine Ev.bind hi (Ev.congr (fun k => by rw [if_pos rfl]) (Ev.bind (reText_ev t ho hst (by omega)) ?_))
      split <;> exact Ev.now _
theorem FnExactReText (l : List S48) (hl : l.length ≤ 9223372036854775807) (hr : ∀ x ∈ l, x.f1.length ≤ 9223372036854775807) : ∃ k, laws_FnExactReText.f k l = some true := by
  refine Ev.rounds (r := true) ?_
  unfold laws_FnExactReText.f
  obtain ⟨v, e1, e2⟩ := szReS_ev l hl hr
  refine Ev.bind e1 ?_
  by_cases h : v < 0
  · exact Ev.congr (fun k => by rw [if_pos h]) (Ev.now true)
  · have hs := e2.resolve_left h
    obtain ⟨m1, m2⟩ := small_map l hs
    obtain ⟨R, cs, ci⟩ := reText_both (l.map toI) m1 m2
    have j0 : Ev (fun k => laws_FnExactReText.j0 k l (l.map toI) false) true := by
      refine Ev.step (fun k => by simp only [laws_FnExactReText.j0]; rw [if_neg (by simp)]) (Ev.bind (toReS_ev l hs) (Ev.bind (eqReS_ev (l.map toI) m1 m2) ?_))
      exact Ev.congr (fun k => by rw [if_pos rfl]) (Ev.now true)
    refine Ev.congr (fun k => by rw [if_neg h]) (Ev.bind (toReS_ev l hs) (Ev.bind cs (Ev.bind (toReS_ev l hs) (Ev.bind ci ?_))))
    exact Ev.congr (fun k => by rw [if_pos rfl, bne_self_eq_false]) j0

end Go.Proofs.Ytlmpeaelpchokaa.Pure
