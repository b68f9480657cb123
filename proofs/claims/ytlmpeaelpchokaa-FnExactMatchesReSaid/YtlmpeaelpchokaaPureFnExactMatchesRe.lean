/-
  For every input the law FnExactMatchesRe returns true; no condition.
-/
import Derived.Test.YtlmpeaelpchokaaHFnExactMatchesRex15
namespace Go.Proofs.Ytlmpeaelpchokaa.Pure
open Go.RowKit Go.Proofs.Ytlmpeaelpchokaa.HFnExactMatchesRe Go.Proofs.YtlmpeaelpchokaaW.PrintWords Go.Proofs.YtlmpeaelpchokaaW.PrintLast
set_option linter.unusedSimpArgs false
set_option linter.unusedVariables false
theorem wr (i : Int) (h0 : -9223372036854775808 ≤ i) (h1 : i ≤ 9223372036854775807) : wrap64 i = i := by unfold wrap64; omega

theorem rd_nat (l : List Int) (j : Nat) : rd l (j : Int) = l.getD j 0 := by unfold rd; simp

theorem getD_at (l : List Int) (j : Nat) (h : j < l.length) : l.getD j 0 = l[j] := by simp [List.getD_eq_getElem?_getD, h]

theorem rd_at (l : List Int) (j : Nat) (h : j < l.length) : rd l (j : Int) = l[j] := by rw [rd_nat, getD_at l j h]

theorem drop_at (l : List Int) (j : Nat) (h : j < l.length) : l.drop j = l[j] :: l.drop (j + 1) := List.drop_eq_getElem_cons h

theorem toIntS_l (l : List Int) (hl : l.length ≤ 17592186044416) : ∀ (d j : Nat) (o : List Int), j + d = l.length → o.length = l.length → (∀ i, i < j → o.getD i 0 = l.getD i 0) → Ev (fun k => laws_toIntS.l0 k l o (j : Int)) l := by
  intro d
  induction d with
  | zero =>
    intro j o hj ho he
    refine Ev.step (f := fun _ => some l) (fun k => ?_) (Ev.now l)
    simp only [laws_toIntS.l0]
    rw [if_neg (by omega)]
    congr 1
    refine List.ext_getElem (by omega) fun i h1 h2 => ?_
    have := he i (by omega)
    rwa [getD_at o i h1, getD_at l i h2] at this
  | succ d ih =>
    intro j o hj ho he
    refine Ev.step (f := fun k => laws_toIntS.l0 k l (o.set j (l.getD j 0)) ((j + 1 : Nat) : Int)) (fun k => ?_) (ih (j + 1) _ (by omega) (by rw [List.length_set]; exact ho) fun i hi => ?_)
    · simp only [laws_toIntS.l0]
      rw [if_pos (by omega), if_pos (by omega), if_pos (by omega), wr _ (by omega) (by omega), rd_nat]
      simp
    · by_cases e : i = j
      · subst e
        rw [getD_at _ _ (by rw [List.length_set]; omega)]
        simp
      · rw [← he i (by omega)]
        simp [List.getD_eq_getElem?_getD, List.getElem?_set, Ne.symm e]

theorem toIntS_ev (l : List Int) (hl : l.length ≤ 17592186044416) : Ev (fun k => laws_toIntS.f k l) l := by
  refine Ev.congr (f := fun k => laws_toIntS.l0 k l (List.replicate l.length 0) ((0 : Nat) : Int)) (fun k => ?_) (toIntS_l l hl l.length 0 _ (by omega) (by simp) (fun i hi => by omega))
  unfold laws_toIntS.f
  rw [if_pos (by omega), if_pos (by omega)]
  simp

theorem eqIntS_l (a b : List Int) (hab : a.length = b.length) (hl : a.length ≤ 17592186044416) : ∀ (d j : Nat), j + d = a.length → a.take j = b.take j → Ev (fun k => laws_eqIntS.l0 k a b (j : Int)) (decide (a = b)) := by
  intro d
  induction d with
  | zero =>
    intro j hj ht
    refine Ev.step (f := fun _ => some (decide (a = b))) (fun k => ?_) (Ev.now _)
    simp only [laws_eqIntS.l0]
    rw [if_neg (by omega)]
    rw [List.take_of_length_le (by omega), List.take_of_length_le (by omega)] at ht
    simp [ht]
  | succ d ih =>
    intro j hj ht
    by_cases e : a[j]'(by omega) = b[j]'(by omega)
    · refine Ev.step (f := fun k => laws_eqIntS.l0 k a b ((j + 1 : Nat) : Int)) (fun k => ?_) (ih (j + 1) (by omega) ?_)
      · simp only [laws_eqIntS.l0]
        rw [if_pos (by omega), if_pos (by omega), if_pos (by omega), rd_at a j (by omega), rd_at b j (by omega), if_pos e, wr _ (by omega) (by omega)]
        simp
      · rw [List.take_succ_eq_append_getElem (by omega), List.take_succ_eq_append_getElem (by omega), ht, e]
    · refine Ev.step (f := fun _ => some (decide (a = b))) (fun k => ?_) (Ev.now _)
      simp only [laws_eqIntS.l0]
      rw [if_pos (by omega), if_pos (by omega), if_pos (by omega), rd_at a j (by omega), rd_at b j (by omega), if_neg e]
      have : ¬ a = b := fun h => e (by subst h; rfl)
      simp [this]

theorem eqIntS_ev (a b : List Int) (hl : a.length ≤ 17592186044416) : Ev (fun k => laws_eqIntS.f k a b) (decide (a = b)) := by
  by_cases h : a.length = b.length
  · refine Ev.congr (f := fun k => laws_eqIntS.l0 k a b ((0 : Nat) : Int)) (fun k => ?_) (eqIntS_l a b h hl a.length 0 (by omega) (by simp))
    unfold laws_eqIntS.f
    rw [if_pos (by omega)]
    simp
  · refine Ev.congr (f := fun _ => some (decide (a = b))) (fun k => ?_) (Ev.now _)
    unfold laws_eqIntS.f
    rw [if_neg (by omega)]
    have : ¬ a = b := fun e => h (by rw [e])
    simp [this]

/-- Within bounds. -/
def inB (lo hi n : Int) : Bool := decide (lo ≤ n ∧ n ≤ hi)
theorem inB_iff (lo hi n : Int) : inB lo hi n = true ↔ lo ≤ n ∧ n ≤ hi := by simp [inB]

theorem in_s (a b c : Int) : spec_l1In.f a b c = some (inB b c a) := by
  unfold spec_l1In.f inB
  by_cases h : a ≥ b
  · rw [if_pos h]; simp [show b ≤ a from h]
  · rw [if_neg h]; simp [show ¬ b ≤ a from h]

theorem in_i (a b c : Int) : impl_inRange.f a b c = some (inB b c a) := by
  unfold impl_inRange.f inB
  by_cases h : b ≤ a
  · rw [if_pos h]; simp [h]
  · rw [if_neg h]; simp [h]

def isR (a : Int) : Bool := inB 0 1114111 a && !inB 55296 57343 a
theorem gr_s (a : Int) : spec_GoodRune.f a = some (isR a) := by
  unfold spec_GoodRune.f isR
  rw [in_s, in_s]
  simp only [Option.bind_some]
  cases inB 0 1114111 a <;> simp

theorem gr_i (a : Int) : impl_GoodRune.f a = some (isR a) := by
  unfold impl_GoodRune.f isR
  rw [in_i, in_i]
  simp only [Option.bind_some]
  cases inB 0 1114111 a <;> simp

theorem specAllRunes_l (l : List Int) (hl : l.length ≤ 17592186044416) : ∀ (d j : Nat), j + d = l.length → Ev (fun k => spec_l1AllRunes.l0 k l l (l.length : Int) (j : Int)) ((l.drop j).all isR && decide (l.length ≤ 1000)) := by
  intro d
  induction d with
  | zero =>
    intro j hj
    refine Ev.step (f := fun _ => some ((l.drop j).all isR && decide (l.length ≤ 1000))) (fun k => ?_) (Ev.now _)
    simp only [spec_l1AllRunes.l0]
    rw [if_neg (by omega), List.drop_of_length_le (by omega)]
    simp
    omega
  | succ d ih =>
    intro j hj
    rw [drop_at l j (by omega), List.all_cons]
    cases e : isR (l[j]'(by omega)) with
    | true =>
      refine Ev.step (f := fun k => spec_l1AllRunes.l0 k l l (l.length : Int) ((j + 1 : Nat) : Int)) (fun k => ?_) (by simpa using ih (j + 1) (by omega))
      simp only [spec_l1AllRunes.l0]
      rw [if_pos (by omega), if_pos (by omega), if_pos (by omega), rd_at l j (by omega), gr_s, wr _ (by omega) (by omega), e]
      simp
    | false =>
      refine Ev.step (f := fun _ => some false) (fun k => ?_) (by simpa using Ev.now false)
      simp only [spec_l1AllRunes.l0]
      rw [if_pos (by omega), if_pos (by omega), if_pos (by omega), rd_at l j (by omega), gr_s, e]
      simp

theorem specAllRunes_ev (l : List Int) (hl : l.length ≤ 17592186044416) : Ev (fun k => spec_l1AllRunes.f k l) (l.all isR && decide (l.length ≤ 1000)) :=
  Ev.congr (fun k => by unfold spec_l1AllRunes.f; rfl) (by simpa using specAllRunes_l l hl l.length 0 (by omega))

theorem goodRuneV_isR (r : Int) : goodRuneV r = isR r := by
  unfold goodRuneV isR inB
  rfl

theorem areRunesV_eq (l : List Int) (m : Int) : areRunesV l m = (l.all isR && decide ((l.length : Int) ≤ m)) := by
  unfold areRunesV
  have e : (!l.any badRuneV) = l.all isR := by
    rw [List.not_any_eq_all_not]
    congr 1
    funext x
    unfold badRuneV
    rw [Bool.not_not, goodRuneV_isR]
  rw [e]
  by_cases h : (l.length : Int) ≤ m
  · simp [h]
  · simp [h]

theorem l1All_l (lo hi : Int) (l : List Int) (hl : l.length ≤ 17592186044416) : ∀ (d j : Nat), j + d = l.length → Ev (fun k => spec_l1All.l0 k lo hi l (l.length : Int) (j : Int)) ((l.drop j).all (inB lo hi)) := by
  intro d
  induction d with
  | zero =>
    intro j hj
    refine Ev.step (f := fun _ => some ((l.drop j).all (inB lo hi))) (fun k => ?_) (Ev.now _)
    simp only [spec_l1All.l0]
    rw [if_neg (by omega), List.drop_of_length_le (by omega)]
    rfl
  | succ d ih =>
    intro j hj
    cases e : inB lo hi (l[j]'(by omega)) with
    | true =>
      refine Ev.step (f := fun k => spec_l1All.l0 k lo hi l (l.length : Int) ((j + 1 : Nat) : Int)) (fun k => ?_) ?_
      · simp only [spec_l1All.l0]
        rw [if_pos (by omega), if_pos (by omega), if_pos (by omega), rd_at l j (by omega), in_s, wr _ (by omega) (by omega), e]
        simp
      · rw [drop_at l j (by omega), List.all_cons, e, Bool.true_and]
        exact ih (j + 1) (by omega)
    | false =>
      refine Ev.step (f := fun _ => some ((l.drop j).all (inB lo hi))) (fun k => ?_) (Ev.now _)
      simp only [spec_l1All.l0]
      rw [if_pos (by omega), if_pos (by omega), if_pos (by omega), rd_at l j (by omega), in_s, e, drop_at l j (by omega), List.all_cons, e]
      simp

theorem l1All_ev (l : List Int) (hl : l.length ≤ 17592186044416) (lo hi : Int) : Ev (fun k => spec_l1All.f k l lo hi) (l.all (inB lo hi)) :=
  Ev.congr (fun k => by unfold spec_l1All.f; rfl) (l1All_l lo hi l hl l.length 0 (by omega))

/-- A set: pairs, each rising, each two ahead of the last one. -/
def Good : Int → List Int → Bool
  | least, a :: b :: r => decide (least ≤ a) && decide (a ≤ b) && decide (b ≤ 1114111) && Good (b + 2) r
  | _, [] => true
  | _, [_] => false

theorem good_mono (l : List Int) : ∀ (a b : Int), a ≤ b → Good b l = true → Good a l = true := by
  intro a b h hg
  match l with
  | [] => rfl
  | [_] => simp [Good] at hg
  | x :: y :: r =>
    simp only [Good, Bool.and_eq_true, decide_eq_true_eq] at hg ⊢
    exact ⟨⟨⟨by omega, hg.1.1.2⟩, hg.1.2⟩, hg.2⟩

/-- A set, with at most twelve spans. -/
def GoodS (l : List Int) : Bool := Good 0 l && decide (l.length ≤ 24)

theorem good_even (l : List Int) : ∀ a, Good a l = true → l.length % 2 = 0 := by
  match l with
  | [] => intro a _; rfl
  | [_] => intro a h; simp [Good] at h
  | x :: y :: r =>
    intro a h
    simp only [Good, Bool.and_eq_true] at h
    have := good_even r _ h.2
    simp only [List.length_cons]
    omega
termination_by l.length

theorem good_all (l : List Int) : ∀ a, 0 ≤ a → Good a l = true → ∀ x ∈ l, 0 ≤ x ∧ x ≤ 1114111 := by
  match l with
  | [] => intro a _ _ x hx; cases hx
  | [_] => intro a _ h; simp [Good] at h
  | y :: z :: r =>
    intro a ha h x hx
    simp [Good] at h
    simp only [List.mem_cons] at hx
    rcases hx with rfl | rfl | hx
    · omega
    · omega
    · exact good_all r (z + 2) (by omega) h.2 x hx
termination_by l.length

def lst (l : List Int) (j : Nat) : Int := if j = 0 then 0 else l.getD (j - 1) 0 + 2

theorem specSet_l (l : List Int) (hl : l.length ≤ 17592186044416) (hr : ∀ x ∈ l, 0 ≤ x ∧ x ≤ 1114111) : ∀ (d j : Nat), j + 2 * d = l.length → Ev (fun k => spec_GoodSet.l0 k l (j : Int)) (Good (lst l j) (l.drop j)) := by
  intro d
  induction d with
  | zero =>
    intro j hj
    refine Ev.step (f := fun _ => some (Good (lst l j) (l.drop j))) (fun k => ?_) (Ev.now _)
    simp only [spec_GoodSet.l0]
    rw [if_neg (by omega), List.drop_of_length_le (by omega)]
    rfl
  | succ d ih =>
    intro j hj
    have ha : 0 ≤ l[j]'(by omega) ∧ l[j]'(by omega) ≤ 1114111 := hr _ (List.getElem_mem _)
    have hb : 0 ≤ l[j + 1]'(by omega) ∧ l[j + 1]'(by omega) ≤ 1114111 := hr _ (List.getElem_mem _)
    have e1 : wrap64 ((j : Int) + 1) = ((j + 1 : Nat) : Int) := by rw [wr _ (by omega) (by omega)]; omega
    have e2 : wrap64 ((j : Int) + 2) = ((j + 2 : Nat) : Int) := by rw [wr _ (by omega) (by omega)]; omega
    have hd : l.drop j = l[j]'(by omega) :: l[j + 1]'(by omega) :: l.drop (j + 2) := by rw [drop_at l j (by omega), drop_at l (j + 1) (by omega)]
    have hn : lst l (j + 2) = l[j + 1]'(by omega) + 2 := by
      unfold lst
      rw [if_neg (by omega), show j + 2 - 1 = j + 1 from by omega, getD_at l (j + 1) (by omega)]
    have ih' := ih (j + 2) (by omega)
    rw [hn] at ih'
    have hg : Good (lst l j) (l.drop j) = (decide (lst l j ≤ l[j]'(by omega)) && decide (l[j]'(by omega) ≤ l[j + 1]'(by omega)) && decide (l[j + 1]'(by omega) ≤ 1114111) && Good (l[j + 1]'(by omega) + 2) (l.drop (j + 2))) := by
      rw [hd, Good]
    rw [hg]
    by_cases h1 : l[j]'(by omega) > l[j + 1]'(by omega)
    · refine Ev.step (f := fun _ => some false) (fun k => ?_) ?_
      · simp only [spec_GoodSet.l0]
        rw [e1, if_pos (by omega), if_pos (by omega), if_pos (by omega), if_pos (by omega), rd_at l j (by omega), rd_at l (j + 1) (by omega), if_pos h1]
      · rw [show decide (l[j]'(by omega) ≤ l[j + 1]'(by omega)) = false from decide_eq_false (by omega)]
        simpa using Ev.now false
    · rw [show decide (l[j]'(by omega) ≤ l[j + 1]'(by omega)) = true from decide_eq_true (by omega), show decide (l[j + 1]'(by omega) ≤ 1114111) = true from decide_eq_true (by omega)]
      by_cases h0 : j = 0
      · subst h0
        rw [show decide (lst l 0 ≤ l[0]'(by omega)) = true from decide_eq_true (by unfold lst; simp; omega)]
        refine Ev.step (f := fun k => spec_GoodSet.l0 k l ((0 + 2 : Nat) : Int)) (fun k => ?_) (by simpa using ih')
        simp only [spec_GoodSet.l0]
        rw [e1, if_pos (by omega), if_pos (by omega), if_pos (by omega), if_pos (by omega), rd_at l 0 (by omega), rd_at l (0 + 1) (by omega), if_neg h1, if_neg (by omega), e2]
      · have e3 : wrap64 ((j : Int) - 1) = ((j - 1 : Nat) : Int) := by rw [wr _ (by omega) (by omega)]; omega
        have hp : 0 ≤ l[j - 1]'(by omega) ∧ l[j - 1]'(by omega) ≤ 1114111 := hr _ (List.getElem_mem _)
        have hs : lst l j = l[j - 1]'(by omega) + 2 := by unfold lst; rw [if_neg h0, getD_at l (j - 1) (by omega)]
        rw [hs]
        by_cases h2 : l[j]'(by omega) < l[j - 1]'(by omega) + 2
        · refine Ev.step (f := fun _ => some false) (fun k => ?_) ?_
          · simp only [spec_GoodSet.l0]
            rw [e1, if_pos (by omega), if_pos (by omega), if_pos (by omega), if_pos (by omega), rd_at l j (by omega), rd_at l (j + 1) (by omega), if_neg h1, if_pos (by omega), e3, if_pos (by omega), if_pos (by omega), rd_at l (j - 1) (by omega), wr (l[j - 1]'(by omega) + 2) (by omega) (by omega), if_pos h2]
          · rw [show decide (l[j - 1]'(by omega) + 2 ≤ l[j]'(by omega)) = false from decide_eq_false (by omega)]
            simpa using Ev.now false
        · refine Ev.step (f := fun k => spec_GoodSet.l0 k l ((j + 2 : Nat) : Int)) (fun k => ?_) ?_
          · simp only [spec_GoodSet.l0]
            rw [e1, if_pos (by omega), if_pos (by omega), if_pos (by omega), if_pos (by omega), rd_at l j (by omega), rd_at l (j + 1) (by omega), if_neg h1, if_pos (by omega), e3, if_pos (by omega), if_pos (by omega), rd_at l (j - 1) (by omega), wr (l[j - 1]'(by omega) + 2) (by omega) (by omega), if_neg h2, e2]
          · rw [show decide (l[j - 1]'(by omega) + 2 ≤ l[j]'(by omega)) = true from decide_eq_true (by omega)]
            simpa using ih'

theorem goodS_bad (l : List Int) (h : ¬ (l.length % 2 = 0 ∧ l.length ≤ 24 ∧ l.all (inB 0 1114111) = true)) : GoodS l = false := by
  cases hg : GoodS l with
  | false => rfl
  | true =>
    unfold GoodS at hg
    rw [Bool.and_eq_true, decide_eq_true_eq] at hg
    refine absurd ⟨good_even l 0 hg.1, hg.2, ?_⟩ h
    rw [List.all_eq_true]
    intro x hx
    exact (inB_iff _ _ _).2 (good_all l 0 (by omega) hg.1 x hx)

theorem specSet_ev (l : List Int) (hl : l.length ≤ 17592186044416) : Ev (fun k => spec_GoodSet.f k l) (GoodS l) := by
  have jt : Ev (fun k => spec_GoodSet.j0 k l true) false := Ev.step (f := fun _ => some false) (fun k => by simp [spec_GoodSet.j0]) (Ev.now _)
  unfold spec_GoodSet.f
  by_cases h1 : l.length % 2 = 1
  · rw [goodS_bad l (by omega)]
    exact Ev.congr (fun k => by rw [if_pos (by omega)]) jt
  · by_cases h2 : l.length ≤ 24
    · refine Ev.congr (f := fun k => (spec_l1All.f k l 0 1114111).bind fun t => spec_GoodSet.j0 k l (!t)) (fun k => by rw [if_neg (by omega), if_neg (by omega)]) ?_
      refine Ev.bind (l1All_ev l hl 0 1114111) ?_
      cases ha : l.all (inB 0 1114111) with
      | false =>
        rw [goodS_bad l (by rw [ha]; simp)]
        exact jt
      | true =>
        refine Ev.step (f := fun k => spec_GoodSet.l0 k l ((0 : Nat) : Int)) (fun k => by simp [spec_GoodSet.j0]) ?_
        have := specSet_l l hl (fun x hx => (inB_iff _ _ _).1 (List.all_eq_true.1 ha x hx)) (l.length / 2) 0 (by omega)
        have e : GoodS l = Good (lst l 0) (l.drop 0) := by unfold GoodS lst; simp [h2]
        rw [e]
        exact this
    · rw [goodS_bad l (by omega)]
      exact Ev.congr (fun k => by rw [if_neg (by omega), if_pos (by omega)]) jt

/-- As the program asks it: number by number. -/
def GA : Bool → Int → List Int → Bool
  | _, _, [] => true
  | p, least, n :: r => inB least 1114111 n && GA (!p) (if p = true then n else n + 2) r

theorem ga_good (l : List Int) : ∀ a, l.length % 2 = 0 → GA true a l = Good a l := by
  match l with
  | [] => intro a _; rfl
  | [_] => intro a h; simp at h
  | x :: y :: r =>
    intro a h
    have ih := ga_good r (y + 2) (by simp only [List.length_cons] at h; omega)
    simp only [GA, Good, Bool.not_true, if_true, Bool.not_false, Bool.false_eq_true, if_false, ih]
    rw [Bool.eq_iff_iff]
    simp only [Bool.and_eq_true, inB_iff, decide_eq_true_eq]
    refine ⟨fun ⟨⟨h1, h2⟩, h3, h4⟩ => ⟨⟨⟨h1, h3.1⟩, h3.2⟩, h4⟩, fun ⟨⟨⟨h1, h2⟩, h3⟩, h4⟩ => ⟨⟨h1, by omega⟩, ⟨h2, h3⟩, h4⟩⟩
termination_by l.length

def lsi (l : List Int) (j : Nat) : Int := if j = 0 then 0 else if j % 2 = 0 then l.getD (j - 1) 0 + 2 else l.getD (j - 1) 0

theorem implSet_l (l : List Int) (hl : l.length ≤ 17592186044416) : ∀ (d j : Nat), j + d = l.length → (j ≠ 0 → l.getD (j - 1) 0 ≤ 1114111) → (j ≠ 0 → 0 ≤ l.getD (j - 1) 0) →
    Ev (fun k => impl_GoodSet.l0 k l l (l.length : Int) (j : Int)) (GA (j % 2 == 0) (lsi l j) (l.drop j) && decide (l.length % 2 = 0 ∧ l.length ≤ 24)) := by
  intro d
  induction d with
  | zero =>
    intro j hj _ _
    refine Ev.step (f := fun _ => some (GA (j % 2 == 0) (lsi l j) (l.drop j) && decide (l.length % 2 = 0 ∧ l.length ≤ 24))) (fun k => ?_) (Ev.now _)
    simp only [impl_GoodSet.l0]
    rw [if_neg (by omega), List.drop_of_length_le (by omega)]
    simp only [GA, Bool.true_and]
    by_cases h : l.length % 2 = 0
    · rw [if_pos (by omega)]
      simp [h]
      omega
    · rw [if_neg (by omega)]
      simp [h]
  | succ d ih =>
    intro j hj hp0 hp1
    have e1 : wrap64 ((j : Int) + 1) = ((j + 1 : Nat) : Int) := by rw [wr _ (by omega) (by omega)]; omega
    rw [drop_at l j (by omega), GA]
    have fin : ∀ (g : Nat → Option Bool), (∀ k, g (k + 1) = (impl_inRange.f (l[j]'(by omega)) (lsi l j) 1114111).bind fun t => if t = true then impl_GoodSet.l0 k l l (l.length : Int) (wrap64 ((j : Int) + 1)) else some false) →
        Ev g ((inB (lsi l j) 1114111 (l[j]'(by omega)) && GA (!(j % 2 == 0)) (if (j % 2 == 0) = true then l[j]'(by omega) else l[j]'(by omega) + 2) (l.drop (j + 1))) && decide (l.length % 2 = 0 ∧ l.length ≤ 24)) := by
      intro g hg
      cases hi : inB (lsi l j) 1114111 (l[j]'(by omega)) with
      | false =>
        refine Ev.step (f := fun _ => some false) (fun k => ?_) (by simpa using Ev.now false)
        rw [hg, in_i, hi]
        simp
      | true =>
        have hb := (inB_iff _ _ _).1 hi
        have h0 : 0 ≤ lsi l j := by
          unfold lsi
          by_cases z : j = 0
          · rw [if_pos z]; omega
          · have := hp1 z
            rw [if_neg z]
            by_cases z2 : j % 2 = 0
            · rw [if_pos z2]; omega
            · rw [if_neg z2]; omega
        refine Ev.step (f := fun k => impl_GoodSet.l0 k l l (l.length : Int) ((j + 1 : Nat) : Int)) (fun k => ?_) ?_
        · rw [hg, in_i, hi, e1]
          simp
        · have hq : l.getD (j + 1 - 1) 0 = l[j]'(by omega) := by rw [show j + 1 - 1 = j from by omega, getD_at l j (by omega)]
          have := ih (j + 1) (by omega) (fun _ => by rw [hq]; omega) (fun _ => by rw [hq]; omega)
          have es : lsi l (j + 1) = if (j % 2 == 0) = true then l[j]'(by omega) else l[j]'(by omega) + 2 := by
            unfold lsi
            rw [if_neg (by omega), hq]
            by_cases z : j % 2 = 0
            · rw [if_neg (by omega), if_pos (by simpa using z)]
            · rw [if_pos (by omega), if_neg (by simpa using z)]
          have ep : ((j + 1) % 2 == 0) = !(j % 2 == 0) := by
            by_cases z : j % 2 = 0
            · have : ¬ (j + 1) % 2 = 0 := by omega
              simp [z, this]
            · have : (j + 1) % 2 = 0 := by omega
              simp [z, this]
          rw [es, ep] at this
          rw [Bool.true_and]
          exact this
    by_cases z : j = 0
    · subst z
      refine Ev.step (f := fun k => impl_GoodSet.j1 k l ((0 : Nat) : Int) (l[0]'(by omega)) 0 l (l.length : Int) ((0 : Nat) : Int) false) (fun k => ?_) (fin _ fun k => ?_)
      · simp only [impl_GoodSet.l0]
        rw [if_pos (by omega), if_pos (by omega), if_pos (by omega), if_neg (by omega), rd_at l 0 (by omega)]
      · simp only [impl_GoodSet.j1]
        rw [if_neg (by simp), if_neg (by omega)]
        rfl
    · have e3 : wrap64 ((j : Int) - 1) = ((j - 1 : Nat) : Int) := by rw [wr _ (by omega) (by omega)]; omega
      have q0 := hp0 z
      have q1 := hp1 z
      have et : ((Int.tmod (j : Int) 2) == 0) = (j % 2 == 0) := by
        rw [show (2 : Int) = ((2 : Nat) : Int) from rfl, ← Int.ofNat_tmod, Bool.eq_iff_iff]
        simp only [beq_iff_eq]
        omega
      refine Ev.step (f := fun k => impl_GoodSet.j1 k l (j : Int) (l[j]'(by omega)) 0 l (l.length : Int) (j : Int) (j % 2 == 0)) (fun k => ?_) (fin _ fun k => ?_)
      · simp only [impl_GoodSet.l0]
        rw [if_pos (by omega), if_pos (by omega), if_pos (by omega), if_pos (by omega), rd_at l j (by omega), et]
      · simp only [impl_GoodSet.j1]
        by_cases z2 : j % 2 = 0
        · rw [if_pos (by simpa using z2), e3, if_pos (by omega), if_pos (by omega), rd_nat, wr (l.getD (j - 1) 0 + 2) (by omega) (by omega)]
          unfold lsi
          rw [if_neg z, if_pos z2]
        · rw [if_neg (by simpa using z2), if_pos (by omega), e3, if_pos (by omega), if_pos (by omega), rd_nat]
          unfold lsi
          rw [if_neg z, if_neg z2]

theorem implSet_ev (l : List Int) (hl : l.length ≤ 17592186044416) : Ev (fun k => impl_GoodSet.f k l) (GoodS l) := by
  have h := implSet_l l hl l.length 0 (by omega) (fun h => absurd rfl h) (fun h => absurd rfl h)
  have e : GoodS l = (GA (0 % 2 == 0) (lsi l 0) (l.drop 0) && decide (l.length % 2 = 0 ∧ l.length ≤ 24)) := by
    by_cases hev : l.length % 2 = 0
    · show (Good 0 l && decide (l.length ≤ 24)) = (GA true 0 l && _)
      rw [ga_good l 0 hev]
      simp [hev]
    · rw [goodS_bad l (by omega)]
      simp [hev]
  rw [e]
  exact Ev.congr (fun k => by unfold impl_GoodSet.f; rfl) h

theorem goodS_facts (l : List Int) (h : GoodS l = true) : l.length ≤ 24 ∧ l.length % 2 = 0 ∧ ∀ x ∈ l, 0 ≤ x ∧ x ≤ 1114111 := by
  unfold GoodS at h
  rw [Bool.and_eq_true, decide_eq_true_eq] at h
  exact ⟨h.2, good_even l 0 h.1, good_all l 0 (by omega) h.1⟩

theorem rdS_L (l : List S48) (j : Nat) (h : j < l.length) : rd_T48 l (j : Int) = l[j] := by unfold rd_T48; simp [List.getD_eq_getElem?_getD, h]
theorem rdS_I (l : List S49) (j : Nat) (h : j < l.length) : rd_T49 l (j : Int) = l[j] := by unfold rd_T49; simp [List.getD_eq_getElem?_getD, h]
def toI (x : S48) : S49 := ⟨x.f0, x.f1⟩
/-- A pattern within bounds. -/
def SmallRe (l : List S48) : Prop := l.length ≤ 1048576 ∧ ∀ x ∈ l, x.f1.length ≤ 1048576
theorem szIntS_v (l : List Int) (b : Int) (h0 : 0 ≤ b) (h1 : b ≤ 1048576) (hl : l.length ≤ 9223372036854775807) : laws_szIntS.f l b = some (if b - (l.length : Int) < 0 then -1 else b - (l.length : Int)) := by
  unfold laws_szIntS.f
  rw [wr _ (by omega) (by omega)]
  split <;> rfl
theorem szRe_v (op : Int) (l : List Int) (b : Int) (h0 : 0 ≤ b) (h1 : b ≤ 1048576) (hl : l.length ≤ 9223372036854775807) : laws_szRe.f op l b = some (if b - (l.length : Int) < 0 then -1 else b - (l.length : Int)) := by
  unfold laws_szRe.f
  rw [szIntS_v l b h0 h1 hl, Option.bind_some]
  by_cases c : b - (l.length : Int) < 0
  · rw [if_pos c, if_pos (by omega)]
  · rw [if_neg c, if_neg c]
def szNodes : Int → List S48 → Int
  | b, [] => b
  | b, x :: t => if b - (x.f1.length : Int) < 0 then -1 else szNodes (b - (x.f1.length : Int)) t
theorem szNodes_ok (l : List S48) : ∀ b, 0 ≤ b → szNodes b l ≤ b ∧ (szNodes b l < 0 ∨ (∀ x ∈ l, (x.f1.length : Int) ≤ b)) := by
  induction l with
  | nil => intro b _; exact ⟨Int.le_refl _, Or.inr (fun r h => by cases h)⟩
  | cons x t ih =>
    intro b hb
    rw [szNodes]
    by_cases c : b - (x.f1.length : Int) < 0
    · rw [if_pos c]; exact ⟨by omega, Or.inl (by omega)⟩
    · rw [if_neg c]
      obtain ⟨h1, h2⟩ := ih (b - (x.f1.length : Int)) (by omega)
      refine ⟨by omega, h2.imp id fun h r hr => ?_⟩
      rcases List.mem_cons.1 hr with rfl | hr
      · omega
      · have := h r hr; omega
theorem szReS_l (l : List S48) (hl : l.length ≤ 1048576) (hr : ∀ x ∈ l, x.f1.length ≤ 9223372036854775807) : ∀ (d j : Nat) (b : Int), j + d = l.length → 0 ≤ b → b ≤ 1048576 → Ev (fun k => laws_szReS.l0 k l b (j : Int)) (szNodes b (l.drop j)) := by
  intro d
  induction d with
  | zero =>
    intro j b hj h0 h1
    refine Ev.step (f := fun _ => some b) (fun k => ?_) (by rw [List.drop_of_length_le (by omega)]; exact Ev.now _)
    simp only [laws_szReS.l0]
    rw [if_neg (by omega)]
  | succ d ih =>
    intro j b hj h0 h1
    have hj' : j < l.length := by omega
    rw [List.drop_eq_getElem_cons hj', szNodes]
    refine Ev.step (f := fun k => (laws_szRe.f (l[j]'hj').f0 (l[j]'hj').f1 b).bind fun t => if t < 0 then some (-1) else laws_szReS.l0 k l t ((j + 1 : Nat) : Int)) (fun k => ?_) ?_
    · simp only [laws_szReS.l0]
      rw [if_pos (by omega), if_pos (by omega), rdS_L l j hj', wr ((j : Int) + 1) (by omega) (by omega)]
      rfl
    · rw [szRe_v _ _ _ h0 h1 (hr _ (List.getElem_mem hj'))]
      refine Ev.bind (Ev.now _) ?_
      by_cases c : b - ((l[j]'hj').f1.length : Int) < 0
      · rw [if_pos c, if_pos c]
        exact Ev.congr (fun k => by rw [if_pos (by omega)]) (Ev.now _)
      · rw [if_neg c, if_neg c]
        exact Ev.congr (fun k => by rw [if_neg c]) (ih (j + 1) _ (by omega) (by omega) (by omega))
theorem szReS_ev (l : List S48) (hl : l.length ≤ 9223372036854775807) (hr : ∀ x ∈ l, x.f1.length ≤ 9223372036854775807) : ∃ v, Ev (fun k => laws_szReS.f k l 1048576) v ∧ (v < 0 ∨ SmallRe l) := by
  unfold laws_szReS.f
  rw [wr (1048576 - (l.length : Int)) (by omega) (by omega)]
  by_cases c : 1048576 - (l.length : Int) < 0
  · exact ⟨-1, Ev.congr (fun k => by rw [if_pos c]) (Ev.now _), Or.inl (by omega)⟩
  · obtain ⟨g1, g2⟩ := szNodes_ok l (1048576 - (l.length : Int)) (by omega)
    exact ⟨szNodes (1048576 - (l.length : Int)) l, Ev.congr (fun k => by rw [if_neg c]; rfl) (szReS_l l (by omega) hr l.length 0 _ (by omega) (by omega) (by omega)), g2.imp id fun h => ⟨by omega, fun r hr => by have := h r hr; omega⟩⟩

theorem toReS_l (l : List S48) (h : SmallRe l) : ∀ (d j : Nat) (o : List S49), j + d = l.length → o.length = l.length → (∀ i (hi : i < l.length), i < j → o[i]? = some (toI l[i])) → Ev (fun k => laws_toReS.l0 k l o (j : Int)) (l.map toI) := by
  obtain ⟨h1, h2⟩ := h
  intro d
  induction d with
  | zero =>
    intro j o hj ho he
    refine Ev.step (f := fun _ => some (l.map toI)) (fun k => ?_) (Ev.now _)
    simp only [laws_toReS.l0]
    rw [if_neg (by omega)]
    congr 1
    refine List.ext_getElem (by rw [List.length_map]; omega) fun i g1 g2 => ?_
    rw [List.length_map] at g2
    have := he i g2 (by omega)
    rw [List.getElem?_eq_getElem g1] at this
    rw [Option.some.inj this, List.getElem_map]
  | succ d ih =>
    intro j o hj ho he
    have hj' : j < l.length := by omega
    have e1 : wrap64 ((j : Int) + 1) = ((j + 1 : Nat) : Int) := by rw [wr _ (by omega) (by omega)]; omega
    have tr : Ev (fun k => laws_toRe.f k (l[j]'hj').f0 (l[j]'hj').f1) ((l[j]'hj').f0, (l[j]'hj').f1) := by
      unfold laws_toRe.f
      exact Ev.bind (toIntS_ev _ (by have := h2 _ (List.getElem_mem hj'); omega)) (Ev.now _)
    refine Ev.step (f := fun k => (laws_toRe.f k (l[j]'hj').f0 (l[j]'hj').f1).bind fun t => laws_toReS.l0 k l (o.set j ⟨t.1, t.2⟩) ((j + 1 : Nat) : Int)) (fun k => ?_) (Ev.bind tr (ih (j + 1) (o.set j (toI (l[j]'hj'))) (by omega) (by rw [List.length_set]; exact ho) fun i hi hlt => ?_))
    · simp only [laws_toReS.l0]
      rw [if_pos (by omega), if_pos (by omega), rdS_L l j hj', e1]
      congr 1
      funext t
      rw [if_pos (by omega)]
      simp
    · by_cases e : i = j
      · subst e
        rw [List.getElem?_set_self (by omega)]
      · rw [List.getElem?_set_ne (fun h => e h.symm)]
        exact he i hi (by omega)
theorem toReS_ev (l : List S48) (h : SmallRe l) : Ev (fun k => laws_toReS.f k l) (l.map toI) := by
  have h1 := h.1
  refine Ev.congr (f := fun k => laws_toReS.l0 k l (List.replicate l.length z49) ((0 : Nat) : Int)) (fun k => ?_) (toReS_l l h l.length 0 _ (by omega) (by simp) (fun i hi h => absurd h (by omega)))
  unfold laws_toReS.f
  rw [if_pos (by omega), if_pos (by omega)]
  simp
theorem eqReS_l (l : List S49) (h1 : l.length ≤ 1048576) (h2 : ∀ x ∈ l, x.f1.length ≤ 1048576) : ∀ (d j : Nat), j + d = l.length → Ev (fun k => laws_eqReS.l0 k l l (j : Int)) true := by
  intro d
  induction d with
  | zero =>
    intro j hj
    refine Ev.step (f := fun _ => some true) (fun k => ?_) (Ev.now _)
    simp only [laws_eqReS.l0]
    rw [if_neg (by omega)]
  | succ d ih =>
    intro j hj
    have hj' : j < l.length := by omega
    have er : Ev (fun k => laws_eqRe.f k (l[j]'hj').f0 (l[j]'hj').f1 (l[j]'hj').f0 (l[j]'hj').f1) true := by
      unfold laws_eqRe.f
      refine Ev.congr (fun k => by rw [if_pos rfl]) (Ev.bind (eqIntS_ev (l[j]'hj').f1 (l[j]'hj').f1 (by have := h2 _ (List.getElem_mem hj'); omega)) ?_)
      exact Ev.congr (fun k => by rw [if_pos (by simp)]) (Ev.now _)
    refine Ev.step (f := fun k => (laws_eqRe.f k (l[j]'hj').f0 (l[j]'hj').f1 (l[j]'hj').f0 (l[j]'hj').f1).bind fun t => if t = true then laws_eqReS.l0 k l l ((j + 1 : Nat) : Int) else some false) (fun k => ?_) (Ev.bind er (Ev.congr (fun k => by rw [if_pos rfl]) (ih (j + 1) (by omega))))
    simp only [laws_eqReS.l0]
    rw [if_pos (by omega), if_pos (by omega), if_pos (by omega), rdS_I l j hj', wr ((j : Int) + 1) (by omega) (by omega)]
    rfl
theorem eqReS_ev (l : List S49) (h1 : l.length ≤ 1048576) (h2 : ∀ x ∈ l, x.f1.length ≤ 1048576) : Ev (fun k => laws_eqReS.f k l l) true :=
  Ev.congr (fun k => by unfold laws_eqReS.f; rw [if_pos rfl]; rfl) (eqReS_l l h1 h2 l.length 0 (by omega))
theorem small_map (l : List S48) (h : SmallRe l) : (l.map toI).length ≤ 1048576 ∧ ∀ x ∈ l.map toI, x.f1.length ≤ 1048576 := by
  refine ⟨by rw [List.length_map]; exact h.1, fun x hx => ?_⟩
  obtain ⟨y, hy, rfl⟩ := List.mem_map.1 hx
  exact h.2 y hy
/-- How many parts an op has. -/
def arV (a : Int) : Int := if a = 1 then 0 else if a = 2 then 0 else if a = 6 then 1 else if a = 7 then 1 else if a = 3 then 2 else if a = 4 then 2 else if a = 5 then 2 else -1
theorem arV_cases (a : Int) : arV a = 0 ∨ arV a = 1 ∨ arV a = 2 ∨ arV a = -1 := by
  unfold arV
  repeat' split
  all_goals simp
theorem specAr_ev (a : Int) : Ev (fun k => spec_l5Arity.f k a) (arV a) := by
  have j0t : Ev (fun k => spec_l5Arity.j0 k a true) 0 := Ev.step (f := fun _ => some 0) (fun k => by simp [spec_l5Arity.j0]) (Ev.now _)
  have j1t : Ev (fun k => spec_l5Arity.j1 k a true) 1 := Ev.step (f := fun _ => some 1) (fun k => by simp [spec_l5Arity.j1]) (Ev.now _)
  unfold spec_l5Arity.f arV
  by_cases h1 : a = 1
  · rw [if_pos h1]; exact Ev.congr (fun k => by rw [if_pos h1, show (a == 1) = true from by simpa using h1]) j0t
  rw [if_neg h1]
  by_cases h2 : a = 2
  · rw [if_pos h2]; exact Ev.congr (fun k => by rw [if_neg h1, show (a == 2) = true from by simpa using h2]) j0t
  rw [if_neg h2]
  refine Ev.congr (f := fun k => spec_l5Arity.j0 k a false) (fun k => by rw [if_neg h1, show (a == 2) = false from by simpa using h2]) ?_
  by_cases h6 : a = 6
  · rw [if_pos h6]
    exact Ev.step (fun k => by simp only [spec_l5Arity.j0]; rw [if_neg (by simp), if_pos h6, show (a == 6) = true from by simpa using h6]) j1t
  rw [if_neg h6]
  by_cases h7 : a = 7
  · rw [if_pos h7]
    exact Ev.step (fun k => by simp only [spec_l5Arity.j0]; rw [if_neg (by simp), if_neg h6, show (a == 7) = true from by simpa using h7]) j1t
  rw [if_neg h7]
  refine Ev.step (f := fun k => spec_l5Arity.j1 k a false) (fun k => by simp only [spec_l5Arity.j0]; rw [if_neg (by simp), if_neg h6, show (a == 7) = false from by simpa using h7]) ?_
  refine Ev.step (f := fun _ => some (if a = 3 then 2 else if a = 4 then 2 else if a = 5 then 2 else -1)) (fun k => ?_) (Ev.now _)
  simp only [spec_l5Arity.j1]
  rw [if_neg (by simp)]
  split
  · rfl
  · split
    · rfl
    · split <;> rfl
theorem implAr_ev (a : Int) : Ev (fun k => impl_partsOf.f k a) (arV a) := by
  have j0t : Ev (fun k => impl_partsOf.j0 k a true) 0 := Ev.step (f := fun _ => some 0) (fun k => by simp [impl_partsOf.j0]) (Ev.now _)
  have j1t : Ev (fun k => impl_partsOf.j1 k a true) 1 := Ev.step (f := fun _ => some 1) (fun k => by simp [impl_partsOf.j1]) (Ev.now _)
  unfold impl_partsOf.f arV
  by_cases h1 : a = 1
  · rw [if_pos h1]; exact Ev.congr (fun k => by rw [if_pos h1, show (a == 1) = true from by simpa using h1]) j0t
  rw [if_neg h1]
  by_cases h2 : a = 2
  · rw [if_pos h2]; exact Ev.congr (fun k => by rw [if_neg h1, show (a == 2) = true from by simpa using h2]) j0t
  rw [if_neg h2]
  refine Ev.congr (f := fun k => impl_partsOf.j0 k a false) (fun k => by rw [if_neg h1, show (a == 2) = false from by simpa using h2]) ?_
  by_cases h6 : a = 6
  · rw [if_pos h6]
    exact Ev.step (fun k => by simp only [impl_partsOf.j0]; rw [if_neg (by simp), if_pos h6, show (a == 6) = true from by simpa using h6]) j1t
  rw [if_neg h6]
  by_cases h7 : a = 7
  · rw [if_pos h7]
    exact Ev.step (fun k => by simp only [impl_partsOf.j0]; rw [if_neg (by simp), if_neg h6, show (a == 7) = true from by simpa using h7]) j1t
  rw [if_neg h7]
  refine Ev.step (f := fun k => impl_partsOf.j1 k a false) (fun k => by simp only [impl_partsOf.j0]; rw [if_neg (by simp), if_neg h6, show (a == 7) = false from by simpa using h7]) ?_
  refine Ev.step (f := fun _ => some (if a = 3 then 2 else if a = 4 then 2 else if a = 5 then 2 else -1)) (fun k => ?_) (Ev.now _)
  simp only [impl_partsOf.j1]
  rw [if_neg (by simp)]
  split
  · rfl
  · split
    · rfl
    · split <;> rfl

/-- A node's set is as it must be. -/
def setOk (x : S49) : Bool := GoodS x.f1 && (x.f1.all isR && (decide (x.f0 = 2) || decide (x.f1.length = 0)))
/-- The nodes stand as they must. -/
def stackV : Int → List S49 → Bool
  | c, [] => c == 1
  | c, x :: r => decide (0 ≤ arV x.f0) && (decide (arV x.f0 ≤ c) && stackV (c + 1 - arV x.f0) r)
def GoodRV (l : List S49) : Bool := decide (l.length ≤ 40) && (l.all setOk && stackV 0 l)

theorem node_ev (x : S49) (hl : x.f1.length ≤ 1048576) : Ev (fun k => spec_l5Node.f k x.f0 x.f1) (decide (0 ≤ arV x.f0) && setOk x) := by
  have q : ∀ g : Nat → Option Bool, (∀ k, g k = (spec_GoodSet.f k x.f1).bind fun t146 => if t146 = true then (spec_l1AllRunes.f k x.f1).bind fun t147 => some t147 else some false) → Ev g (GoodS x.f1 && x.f1.all isR) := by
    intro g hg
    refine Ev.congr hg (Ev.bind (specSet_ev x.f1 (by omega)) ?_)
    cases hs : GoodS x.f1 with
    | false => exact Ev.congr (fun k => by rw [if_neg (by simp)]) (by simpa using Ev.now false)
    | true =>
      have h24 := (goodS_facts x.f1 hs).1
      refine Ev.congr (fun k => by rw [if_pos rfl]) (Ev.bind (specAllRunes_ev x.f1 (by omega)) ?_)
      rw [show decide (x.f1.length ≤ 1000) = true from decide_eq_true (by omega), Bool.and_true, Bool.true_and]
      exact Ev.now _
  unfold spec_l5Node.f setOk
  refine Ev.bind (specAr_ev x.f0) ?_
  by_cases h0 : arV x.f0 < 0
  · rw [show decide (0 ≤ arV x.f0) = false from decide_eq_false (by omega), Bool.false_and]
    exact Ev.congr (fun k => by rw [if_pos h0]) (Ev.now _)
  · rw [show decide (0 ≤ arV x.f0) = true from decide_eq_true (by omega), Bool.true_and]
    by_cases h2 : x.f0 = 2
    · rw [decide_eq_true h2, Bool.true_or, Bool.and_true]
      exact q _ (fun k => by rw [if_neg h0, if_pos h2])
    · rw [decide_eq_false h2, Bool.false_or]
      by_cases h3 : x.f1.length = 0
      · rw [decide_eq_true h3, Bool.and_true]
        exact q _ (fun k => by rw [if_neg h0, if_neg h2, if_neg (by omega)])
      · rw [decide_eq_false h3, Bool.and_false, Bool.and_false]
        exact Ev.congr (fun k => by rw [if_neg h0, if_neg h2, if_pos (by omega)]) (Ev.now _)
theorem specGoodRe_l (l : List S49) (hl : l.length ≤ 1000) (hr : ∀ x ∈ l, x.f1.length ≤ 1048576) : ∀ (d j : Nat) (c : Int), j + d = l.length → 0 ≤ c → c ≤ j → Ev (fun k => spec_l5Good.l0 k c l (l.length : Int) (j : Int)) ((l.drop j).all setOk && stackV c (l.drop j)) := by
  intro d
  induction d with
  | zero =>
    intro j c hj h0 h1
    refine Ev.step (f := fun _ => some (c == 1)) (fun k => ?_) (by rw [List.drop_of_length_le (by omega)]; exact Ev.now _)
    simp only [spec_l5Good.l0]
    rw [if_neg (by omega)]
  | succ d ih =>
    intro j c hj h0 h1
    have hj' : j < l.length := by omega
    have hx := hr _ (List.getElem_mem hj')
    have e1 : wrap64 ((j : Int) + 1) = ((j + 1 : Nat) : Int) := by rw [wr _ (by omega) (by omega)]; omega
    rw [List.drop_eq_getElem_cons hj', List.all_cons, stackV]
    refine Ev.step (fun k => by simp only [spec_l5Good.l0]; rw [if_pos (by omega), if_pos (by omega), if_pos (by omega), rdS_I l j hj', e1]) ?_
    refine Ev.bind (node_ev (l[j]'hj') hx) ?_
    have hc := arV_cases (l[j]'hj').f0
    by_cases ha : 0 ≤ arV (l[j]'hj').f0
    · rw [decide_eq_true ha, Bool.true_and, Bool.true_and]
      cases setOk (l[j]'hj') with
      | false => exact Ev.congr (fun k => by rw [if_neg (by simp)]) (by simpa using Ev.now false)
      | true =>
        refine Ev.congr (fun k => by rw [if_pos rfl]) (Ev.bind (specAr_ev (l[j]'hj').f0) ?_)
        rw [Bool.true_and]
        by_cases hp : c < arV (l[j]'hj').f0
        · rw [show decide (arV (l[j]'hj').f0 ≤ c) = false from decide_eq_false (by omega), Bool.false_and, Bool.and_false]
          exact Ev.congr (fun k => by rw [if_pos hp]) (Ev.now _)
        · rw [show decide (arV (l[j]'hj').f0 ≤ c) = true from decide_eq_true (by omega), Bool.true_and]
          refine Ev.congr (fun k => by rw [if_neg hp]) (Ev.bind (specAr_ev (l[j]'hj').f0) ?_)
          have e2 : wrap64 (c + wrap64 (1 - arV (l[j]'hj').f0)) = c + 1 - arV (l[j]'hj').f0 := by rw [wr (1 - arV (l[j]'hj').f0) (by omega) (by omega), wr _ (by omega) (by omega)]; omega
          rw [e2]
          exact ih (j + 1) (c + 1 - arV (l[j]'hj').f0) (by omega) (by omega) (by omega)
    · rw [decide_eq_false ha, Bool.false_and, Bool.false_and, Bool.and_false]
      exact Ev.congr (fun k => by rw [if_neg (by simp)]) (Ev.now _)
theorem specGoodRe_ev (l : List S49) (hl : l.length ≤ 1048576) (hr : ∀ x ∈ l, x.f1.length ≤ 1048576) : Ev (fun k => spec_GoodRe.f k l) (GoodRV l) := by
  unfold spec_GoodRe.f GoodRV
  by_cases h : l.length ≤ 40
  · rw [decide_eq_true h, Bool.true_and]
    refine Ev.congr (fun k => by rw [if_pos (by omega)]) (Ev.bind (a := l.all setOk && stackV 0 l) ?_ (Ev.now _))
    unfold spec_l5Good.f
    simpa using specGoodRe_l l (by omega) hr l.length 0 0 (by omega) (by omega) (by omega)
  · rw [decide_eq_false h, Bool.false_and]
    exact Ev.congr (fun k => by rw [if_neg (by omega)]) (Ev.now _)

theorem clone_v (l : List Int) (h : l.length ≤ 1099511627776) : slices_Clone_int_int.f l = some l := by
  unfold slices_Clone_int_int.f
  rw [if_pos (by omega)]
theorem parts_l (l : List S49) (hl : l.length ≤ 1000) : ∀ (d j : Nat) (acc : List (List Int)) (pile : List Int), j + d = l.length → acc.length ≤ j → pile.length ≤ j → ∃ L, Ev (fun k => impl_parts.l0 k acc pile l (l.length : Int) (j : Int)) (L, stackV (pile.length : Int) (l.drop j)) := by
  intro d
  induction d with
  | zero =>
    intro j acc pile hj ha hp
    refine ⟨acc, Ev.step (f := fun _ => some (acc, (pile.length : Int) == 1)) (fun k => ?_) (by rw [List.drop_of_length_le (by omega)]; exact Ev.now _)⟩
    simp only [impl_parts.l0]
    rw [if_neg (by omega)]
  | succ d ih =>
    intro j acc pile hj hacc hp
    have hj' : j < l.length := by omega
    have e1 : wrap64 ((j : Int) + 1) = ((j + 1 : Nat) : Int) := by rw [wr _ (by omega) (by omega)]; omega
    rw [List.drop_eq_getElem_cons hj', stackV]
    have hc := arV_cases (l[j]'hj').f0
    have st : ∀ (g : Nat → Option (List (List Int) × Bool)) r, Ev g r → (∀ k, (if arV (l[j]'hj').f0 < 0 then some (([] : List (List Int)), false) else (if arV (l[j]'hj').f0 > (pile.length : Int) then some (([] : List (List Int)), false) else (if 0 ≤ (wrap64 ((pile.length : Int) - arV (l[j]'hj').f0)) then (if (wrap64 ((pile.length : Int) - arV (l[j]'hj').f0)) ≤ (pile.length : Int) then ((slices_Clone_int_int.f (pile.drop ((wrap64 ((pile.length : Int) - arV (l[j]'hj').f0)) : Int).toNat)).bind fun t180 => (if acc.length < 5864062014805 then ((some (pile.take ((wrap64 ((pile.length : Int) - arV (l[j]'hj').f0)) : Int).toNat : List Int)).bind fun y186 => (if y186.length < 17592186044416 then (impl_parts.l0 k (acc ++ [t180]) (y186 ++ [(j : Int)]) l (l.length : Int) ((j + 1 : Nat) : Int)) else (none))) else (none))) else (none)) else (none)))) = g k) → Ev (fun k => impl_parts.l0 k acc pile l (l.length : Int) (j : Int)) r := by
      intro g r hg he
      refine Ev.step (fun k => by simp only [impl_parts.l0]; rw [if_pos (by omega), if_pos (by omega), if_pos (by omega), rdS_I l j hj', e1]) ?_
      exact Ev.bind (implAr_ev (l[j]'hj').f0) (Ev.congr he hg)
    by_cases ha : 0 ≤ arV (l[j]'hj').f0
    · rw [decide_eq_true ha, Bool.true_and]
      by_cases hq : arV (l[j]'hj').f0 > (pile.length : Int)
      · refine ⟨[], st (fun _ => some ([], false)) _ ?_ (fun k => by rw [if_neg (by omega), if_pos hq])⟩
        rw [show decide (arV (l[j]'hj').f0 ≤ (pile.length : Int)) = false from decide_eq_false (by omega), Bool.false_and]
        exact Ev.now _
      · rw [show decide (arV (l[j]'hj').f0 ≤ (pile.length : Int)) = true from decide_eq_true (by omega), Bool.true_and]
        obtain ⟨n, hn⟩ : ∃ n : Nat, (pile.length : Int) - arV (l[j]'hj').f0 = (n : Int) := ⟨((pile.length : Int) - arV (l[j]'hj').f0).toNat, by omega⟩
        have e2 : wrap64 ((pile.length : Int) - arV (l[j]'hj').f0) = (n : Int) := by rw [hn, wr _ (by omega) (by omega)]
        have hz : (pile.drop n).length ≤ pile.length := by rw [List.length_drop]; omega
        have ht : (pile.take n).length = n := by rw [List.length_take]; omega
        obtain ⟨L, hL⟩ := ih (j + 1) (acc ++ [pile.drop n]) (pile.take n ++ [(j : Int)]) (by omega) (by simp; omega) (by rw [List.length_append, ht]; simp; omega)
        refine ⟨L, st (fun k => impl_parts.l0 k (acc ++ [pile.drop n]) (pile.take n ++ [(j : Int)]) l (l.length : Int) ((j + 1 : Nat) : Int)) _ ?_ (fun k => ?_)⟩
        · rw [List.length_append, ht] at hL
          rw [show (pile.length : Int) + 1 - arV (l[j]'hj').f0 = ((n + [(j : Int)].length : Nat) : Int) from by simp; omega]
          exact hL
        · rw [if_neg (by omega), if_neg hq, e2, if_pos (by omega), if_pos (by omega), Int.toNat_natCast, clone_v _ (by omega), Option.bind_some, if_pos (by omega), Option.bind_some, if_pos (by omega)]
    · refine ⟨[], st (fun _ => some ([], false)) _ ?_ (fun k => by rw [if_pos (by omega)])⟩
      rw [decide_eq_false ha, Bool.false_and]
      exact Ev.now _
theorem parts_ev (l : List S49) (hl : l.length ≤ 1000) : ∃ L, Ev (fun k => impl_parts.f k l) (L, stackV 0 l) := by
  obtain ⟨L, h⟩ := parts_l l hl l.length 0 [] [] (by omega) (by simp) (by simp)
  exact ⟨L, Ev.congr (fun k => by unfold impl_parts.f; rfl) (by simpa using h)⟩

theorem anyO_ev {α : Type} (f : Nat → α → Option Bool) (p : α → Bool) (l : List α) (h : ∀ x ∈ l, Ev (fun k => f k x) (p x)) : Ev (fun k => anyO (f k) l) (l.any p) := by
  have key : ∃ K, ∀ k, K ≤ k → ∀ x ∈ l, f k x = some (p x) := by
    induction l with
    | nil => exact ⟨0, fun k _ x hx => by cases hx⟩
    | cons y t ih =>
      obtain ⟨K1, h1⟩ := ih (fun x hx => h x (by simp [hx]))
      obtain ⟨K2, h2⟩ := h y (by simp)
      refine ⟨max K1 K2, fun k hk x hx => ?_⟩
      rcases List.mem_cons.1 hx with rfl | hx
      · exact h2 k (by omega)
      · exact h1 k (by omega) x hx
  obtain ⟨K, hK⟩ := key
  refine ⟨K, fun k hk => ?_⟩
  have hf := hK k hk
  show anyO (f k) l = some (l.any p)
  unfold anyO
  rw [if_pos (List.all_eq_true.2 fun x hx => by rw [hf x hx]; rfl)]
  congr 1
  rw [Bool.eq_iff_iff, List.any_eq_true, List.any_eq_true]
  exact ⟨fun ⟨x, hx, e⟩ => ⟨x, hx, by rw [hf x hx] at e; exact e⟩, fun ⟨x, hx, e⟩ => ⟨x, hx, by rw [hf x hx]; exact e⟩⟩
theorem badRune_isR (r : Int) : badRuneV r = !isR r := by
  unfold badRuneV goodRuneV isR inB
  rfl
theorem badRe_ev (x : S49) (hl : x.f1.length ≤ 1048576) : Ev (fun k => badReO k x) (!setOk x) := by
  unfold badReO
  refine Ev.bind (implSet_ev x.f1 (by omega)) ?_
  have e : (!GoodS x.f1 || (x.f1.any badRuneV || (decide (x.f0 ≠ 2) && decide ((x.f1.length : Int) > 0)))) = !setOk x := by
    unfold setOk
    have e1 : x.f1.any badRuneV = !x.f1.all isR := by
      rw [List.not_all_eq_any_not]
      exact congrArg x.f1.any (funext badRune_isR)
    have e2 : (decide (x.f0 ≠ 2) && decide ((x.f1.length : Int) > 0)) = !(decide (x.f0 = 2) || decide (x.f1.length = 0)) := by
      rw [Bool.not_or, Bool.eq_iff_iff]
      simp only [Bool.and_eq_true, decide_eq_true_eq, Bool.not_eq_true', decide_eq_false_iff_not]
      omega
    rw [e1, e2, Bool.not_and, Bool.not_and]
  rw [e]
  exact Ev.now _
theorem implGoodRe_ev (l : List S49) (hl : l.length ≤ 1048576) (hr : ∀ x ∈ l, x.f1.length ≤ 1048576) : Ev (fun k => impl_GoodRe.f k l) (GoodRV l) := by
  unfold impl_GoodRe.f GoodRV
  rw [in_i]
  refine Ev.bind (Ev.now _) ?_
  by_cases h : 1 ≤ (l.length : Int) ∧ (l.length : Int) ≤ 40
  · rw [(inB_iff 1 40 _).2 h, decide_eq_true (show l.length ≤ 40 by omega), Bool.true_and]
    refine Ev.congr (fun k => by rw [if_pos rfl]) (Ev.bind (anyO_ev (fun k x => badReO k x) (fun x => !setOk x) l (fun x hx => badRe_ev x (hr x hx))) ?_)
    rw [← List.not_all_eq_any_not]
    cases l.all setOk with
    | false => exact Ev.congr (fun k => by rw [if_pos (by simp)]) (by simpa using Ev.now false)
    | true =>
      obtain ⟨L, hL⟩ := parts_ev l (by omega)
      refine Ev.congr (fun k => by rw [if_neg (by simp)]) (Ev.bind hL ?_)
      rw [Bool.true_and]
      exact Ev.now _
  · rw [show inB 1 40 (l.length : Int) = false from by cases e : inB 1 40 (l.length : Int) with | false => rfl | true => exact absurd ((inB_iff _ _ _).1 e) h]
    refine Ev.congr (fun k => by rw [if_neg (by simp)]) ?_
    by_cases h0 : l.length ≤ 40
    · have : l = [] := List.eq_nil_of_length_eq_zero (by omega)
      subst this
      exact Ev.now _
    · rw [decide_eq_false h0, Bool.false_and]
      exact Ev.now _
theorem goodS_nil : GoodS [] = true := by first | rfl | decide | simp [GoodS]
/-- A pattern as a tree. -/
inductive Pt where
  | l (n : S49) : Pt
  | u (n : S49) (a : Pt) : Pt
  | b (n : S49) (x y : Pt) : Pt
namespace Pt
def flat : Pt → List S49
  | l n => [n]
  | u n a => a.flat ++ [n]
  | b n x y => x.flat ++ (y.flat ++ [n])
def ok : Pt → Prop
  | l n => arV n.f0 = 0
  | u n a => arV n.f0 = 1 ∧ a.ok
  | b n x y => arV n.f0 = 2 ∧ x.ok ∧ y.ok
theorem flat_pos : ∀ t : Pt, 0 < t.flat.length
  | l _ => by simp [flat]
  | u _ _ => by simp [flat]
  | b _ _ _ => by simp [flat]; omega
/-- The root's node. -/
def root : Pt → S49
  | l n => n
  | u n _ => n
  | b n _ _ => n
theorem flat_last : ∀ t : Pt, ∃ i, t.flat = i ++ [t.root]
  | l n => ⟨[], rfl⟩
  | u n a => ⟨a.flat, rfl⟩
  | b n x y => ⟨x.flat ++ y.flat, by simp [flat, root]⟩
end Pt
def flats : List Pt → List S49
  | [] => []
  | t :: st => flats st ++ t.flat
def oks (st : List Pt) : Prop := ∀ t ∈ st, t.ok
/-- What a stack of trees becomes by nodes. -/
def build : List S49 → List Pt → Option (List Pt)
  | [], st => some st
  | n :: p, st => if arV n.f0 = 0 then build p (.l n :: st) else if arV n.f0 = 1 then (match st with | a :: st => build p (.u n a :: st) | [] => none) else if arV n.f0 = 2 then (match st with | y :: x :: st => build p (.b n x y :: st) | _ => none) else none
theorem build_flat : ∀ (t : Pt), t.ok → ∀ p st, build (t.flat ++ p) st = build p (t :: st)
  | .l n, h, p, st => by
    simp only [Pt.ok] at h
    simp only [Pt.flat, List.cons_append, List.nil_append, build]
    rw [if_pos h]
  | .u n a, h, p, st => by
    obtain ⟨h1, h2⟩ := h
    simp only [Pt.flat, List.append_assoc]
    rw [build_flat a h2]
    simp only [List.cons_append, List.nil_append, build]
    rw [if_neg (by omega), if_pos h1]
  | .b n x y, h, p, st => by
    obtain ⟨h1, h2, h3⟩ := h
    simp only [Pt.flat, List.append_assoc]
    rw [build_flat x h2, build_flat y h3]
    simp only [List.cons_append, List.nil_append, build]
    rw [if_neg (by omega), if_neg (by omega), if_pos h1]
theorem build_inv : ∀ (p : List S49) (st st' : List Pt), oks st → build p st = some st' → oks st' ∧ flats st' = flats st ++ p
  | [], st, st', hk, h => by
    simp only [build, Option.some.injEq] at h
    subst h
    exact ⟨hk, by simp⟩
  | n :: p, st, st', hk, h => by
    simp only [build] at h
    split at h
    · rename_i h0
      obtain ⟨a, b⟩ := build_inv p _ _ (fun t ht => by rcases List.mem_cons.1 ht with rfl | ht; exact h0; exact hk t ht) h
      exact ⟨a, by rw [b]; simp [flats, Pt.flat]⟩
    · split at h
      · rename_i h1
        cases st with
        | nil => cases h
        | cons a st =>
          obtain ⟨q, r⟩ := build_inv p _ _ (fun t ht => by rcases List.mem_cons.1 ht with rfl | ht; exact ⟨h1, hk a (by simp)⟩; exact hk t (by simp [ht])) h
          exact ⟨q, by rw [r]; simp [flats, Pt.flat]⟩
      · split at h
        · rename_i h2
          match st, hk, h with
          | [], _, h => cases h
          | [_], _, h => cases h
          | y :: x :: st, hk, h =>
            obtain ⟨q, r⟩ := build_inv p _ _ (fun t ht => by rcases List.mem_cons.1 ht with rfl | ht; exact ⟨h2, hk x (by simp), hk y (by simp)⟩; exact hk t (by simp [ht])) h
            exact ⟨q, by rw [r]; simp [flats, Pt.flat]⟩
        · cases h
/-- A list of nodes whose count stays right is built. -/
theorem build_stack : ∀ (p : List S49) (st : List Pt), stackV (st.length : Int) p = true → ∃ t, build p st = some [t]
  | [], st, h => by
    simp only [stackV, decide_eq_true_eq] at h
    match st, h with
    | [t], _ => exact ⟨t, rfl⟩
    | [], h => simp at h
    | _ :: _ :: st, h => simp at h; omega
  | n :: p, st, h => by
    simp only [stackV, Bool.and_eq_true, decide_eq_true_eq] at h
    obtain ⟨h0, h1, h2⟩ := h
    simp only [build]
    split
    · rename_i e
      exact build_stack p _ (by rw [e] at h2; simpa using h2)
    · split
      · rename_i e
        match st, h1, h2 with
        | [], h1, _ => simp at h1; omega
        | a :: st, _, h2 => exact build_stack p _ (by rw [e] at h2; simpa using h2)
      · split
        · rename_i e
          match st, h1, h2 with
          | [], h1, _ => simp at h1; omega
          | [_], h1, _ => simp at h1; omega
          | y :: x :: st, _, h2 => exact build_stack p _ (by rw [e] at h2; simp only [List.length_cons] at h2 ⊢; rw [show (((st.length + 1 : Nat)) : Int) = ((st.length + 1 + 1 : Nat) : Int) + 1 - 2 from by omega]; exact h2)
        · rename_i e0 e1 e2
          exfalso
          unfold arV at h0 e0 e1 e2
          repeat' split at h0
          all_goals simp_all
theorem stack_flat : ∀ (t : Pt), t.ok → ∀ (p : List S49) (c : Int), 0 ≤ c → stackV c (t.flat ++ p) = stackV (c + 1) p
  | .l n, h, p, c, hc => by
    simp only [Pt.ok] at h
    simp only [Pt.flat, List.cons_append, List.nil_append, stackV]
    rw [h, decide_eq_true (by omega), decide_eq_true (by omega), Bool.true_and, Bool.true_and, show c + 1 - 0 = c + 1 from by omega]
  | .u n a, h, p, c, hc => by
    obtain ⟨h1, h2⟩ := h
    simp only [Pt.flat, List.append_assoc]
    rw [stack_flat a h2 _ c hc]
    simp only [List.cons_append, List.nil_append, stackV]
    rw [h1, decide_eq_true (by omega), decide_eq_true (by omega), Bool.true_and, Bool.true_and, show c + 1 + 1 - 1 = c + 1 from by omega]
  | .b n x y, h, p, c, hc => by
    obtain ⟨h1, h2, h3⟩ := h
    simp only [Pt.flat, List.append_assoc]
    rw [stack_flat x h2 _ c hc, stack_flat y h3 _ _ (by omega)]
    simp only [List.cons_append, List.nil_append, stackV]
    rw [h1, decide_eq_true (by omega), decide_eq_true (by omega), Bool.true_and, Bool.true_and, show c + 1 + 1 + 1 - 2 = c + 1 from by omega]
/-- A good list is one tree's. -/
theorem tree_of (p : List S49) (h : stackV 0 p = true) : ∃ t : Pt, t.ok ∧ p = t.flat := by
  obtain ⟨t, ht⟩ := build_stack p [] h
  obtain ⟨a, b⟩ := build_inv p [] [t] (fun _ h => by cases h) ht
  exact ⟨t, a t (by simp), by simpa [flats] using b.symm⟩
theorem stack_tree (t : Pt) (h : t.ok) : stackV 0 t.flat = true := by
  have := stack_flat t h [] 0 (by omega)
  rw [List.append_nil] at this
  rw [this]; simp [stackV]
theorem flat_inj {t t' : Pt} (h : t.ok) (h' : t'.ok) (e : t.flat = t'.flat) : t = t' := by
  have a := build_flat t h [] []
  have b := build_flat t' h' [] []
  rw [e] at a
  rw [a] at b
  simpa [build] using b
/-- A node without a set. -/
def nd (op : Int) : S49 := ⟨op, []⟩
theorem nd_ok (op : Int) : setOk (nd op) = true := by simp [setOk, nd, goodS_nil]
/-- Every node's set is as it must be. -/
def Pt.sets (t : Pt) : Prop := ∀ x ∈ t.flat, setOk x = true
theorem Pt.sets_l {n : S49} : (Pt.l n).sets ↔ setOk n = true := by simp [Pt.sets, Pt.flat]
theorem Pt.sets_u {n : S49} {a : Pt} : (Pt.u n a).sets ↔ a.sets ∧ setOk n = true := by
  simp only [Pt.sets, Pt.flat, List.mem_append, List.mem_singleton]
  exact ⟨fun h => ⟨fun x hx => h x (.inl hx), h n (.inr rfl)⟩, fun h x hx => hx.elim (h.1 x) (fun e => e ▸ h.2)⟩
theorem Pt.sets_b {n : S49} {a b : Pt} : (Pt.b n a b).sets ↔ a.sets ∧ b.sets ∧ setOk n = true := by
  simp only [Pt.sets, Pt.flat, List.mem_append, List.mem_singleton]
  exact ⟨fun h => ⟨fun x hx => h x (.inl hx), fun x hx => h x (.inr (.inl hx)), h n (.inr (.inr rfl))⟩, fun h x hx => hx.elim (h.1 x) (fun e => e.elim (h.2.1 x) (fun e => e ▸ h.2.2))⟩
/-- Good lists are the good trees'. -/
theorem good_tree {p : List S49} (h : GoodRV p = true) : ∃ t : Pt, t.ok ∧ t.sets ∧ p = t.flat ∧ p.length ≤ 40 := by
  simp only [GoodRV, Bool.and_eq_true, decide_eq_true_eq] at h
  obtain ⟨h1, h2, h3⟩ := h
  obtain ⟨t, a, b⟩ := tree_of p h3
  subst b
  exact ⟨t, a, fun x hx => List.all_eq_true.1 h2 x hx, rfl, h1⟩
theorem tree_good {t : Pt} (h1 : t.ok) (h2 : t.sets) : GoodRV t.flat = decide (t.flat.length ≤ 40) := by
  simp only [GoodRV]
  rw [List.all_eq_true.2 h2, stack_tree t h1]; simp
/-- A node that is no set's has none. -/
theorem set_none {n : S49} (h : setOk n = true) (h2 : n.f0 ≠ 2) : n.f1 = [] := by
  simp only [setOk, Bool.and_eq_true, Bool.or_eq_true, decide_eq_true_eq, List.length_eq_zero_iff] at h
  rcases h.2.2 with h | h
  · exact absurd h h2
  · exact h
theorem nd_eq {n : S49} (h : setOk n = true) (h2 : n.f0 ≠ 2) : n = nd n.f0 := by
  obtain ⟨a, b⟩ := n
  have := set_none h h2
  simp only at this
  subst this
  rfl
theorem ar_ne {a : Int} (h : arV a ≠ 0) : a ≠ 2 := by
  rintro rfl
  exact h (by simp [arV])
/-- The parts of each ReCat the other way round. -/
def Pt.rev : Pt → Pt
  | .l n => .l n
  | .u n a => .u (nd n.f0) a.rev
  | .b n x y => if n.f0 = 3 then .b (nd n.f0) y.rev x.rev else .b (nd n.f0) x.rev y.rev
theorem Pt.rev_ok : ∀ t : Pt, t.ok → t.rev.ok
  | .l _, h => h
  | .u _ a, h => ⟨h.1, a.rev_ok h.2⟩
  | .b n x y, h => by
    unfold Pt.rev
    split
    · exact ⟨h.1, y.rev_ok h.2.2, x.rev_ok h.2.1⟩
    · exact ⟨h.1, x.rev_ok h.2.1, y.rev_ok h.2.2⟩
theorem Pt.rev_sets : ∀ t : Pt, t.sets → t.rev.sets
  | .l _, h => h
  | .u _ a, h => Pt.sets_u.2 ⟨a.rev_sets (Pt.sets_u.1 h).1, nd_ok _⟩
  | .b n x y, h => by
    obtain ⟨h1, h2, _⟩ := Pt.sets_b.1 h
    unfold Pt.rev
    split
    · exact Pt.sets_b.2 ⟨y.rev_sets h2, x.rev_sets h1, nd_ok _⟩
    · exact Pt.sets_b.2 ⟨x.rev_sets h1, y.rev_sets h2, nd_ok _⟩
theorem Pt.rev_len : ∀ t : Pt, t.rev.flat.length = t.flat.length
  | .l _ => rfl
  | .u _ a => by simp [Pt.rev, Pt.flat, a.rev_len]
  | .b n x y => by
    unfold Pt.rev
    split <;> simp [Pt.flat, x.rev_len, y.rev_len] <;> omega
/-- Two nodes, two patterns are the same. -/
def sameN (x y : S49) : Bool := x.f0 == y.f0 && x.f1 == y.f1
def sameP : List S49 → List S49 → Bool
  | [], [] => true
  | x :: a, y :: b => sameN x y && sameP a b
  | _, _ => false
theorem sameN_eq {x y : S49} : sameN x y = true ↔ x = y := by
  obtain ⟨a, b⟩ := x
  obtain ⟨c, d⟩ := y
  simp [sameN]
theorem sameP_eq : ∀ {a b : List S49}, sameP a b = true ↔ a = b
  | [], [] => by simp [sameP]
  | x :: a, y :: b => by simp [sameP, sameN_eq, sameP_eq (a := a) (b := b)]
  | [], _ :: _ => by simp [sameP]
  | _ :: _, [] => by simp [sameP]
/-- A tree's nodes that are well set: a list of them. -/
def isTree (p : List S49) : Prop := ∃ t : Pt, t.ok ∧ t.sets ∧ p = t.flat
theorem isTree.pos {p : List S49} (h : isTree p) : 0 < p.length := by
  obtain ⟨t, _, _, rfl⟩ := h
  exact t.flat_pos
theorem isTree_nd0 {op : Int} (h : arV op = 0) : isTree [nd op] := ⟨.l (nd op), h, Pt.sets_l.2 (nd_ok op), rfl⟩
theorem isTree_1 {op : Int} {p : List S49} (h : arV op = 1) (hp : isTree p) : isTree (p ++ [nd op]) := by
  obtain ⟨t, a, b, rfl⟩ := hp
  exact ⟨.u (nd op) t, ⟨h, a⟩, Pt.sets_u.2 ⟨b, nd_ok op⟩, rfl⟩
theorem isTree_2 {op : Int} {p q : List S49} (h : arV op = 2) (hp : isTree p) (hq : isTree q) : isTree (p ++ (q ++ [nd op])) := by
  obtain ⟨t, a, b, rfl⟩ := hp
  obtain ⟨t', a', b', rfl⟩ := hq
  exact ⟨.b (nd op) t t', ⟨h, a, a'⟩, Pt.sets_b.2 ⟨b, b', nd_ok op⟩, rfl⟩
/-- The last node's op. -/
def lastOp (p : List S49) : Int := (p.getLastD ⟨0, []⟩).f0
theorem lastOp_snoc (p : List S49) (n : S49) : lastOp (p ++ [n]) = n.f0 := by simp [lastOp]
theorem isTree_not {p : List S49} (hp : isTree p) (h : arV (lastOp p) = 1) : isTree p.dropLast := by
  obtain ⟨t, a, b, rfl⟩ := hp
  cases t with
  | l n => simp only [Pt.flat, lastOp, List.getLastD_cons, List.getLastD_nil] at h; simp only [Pt.ok] at a; omega
  | u n t => exact ⟨t, a.2, (Pt.sets_u.1 b).1, by simp [Pt.flat]⟩
  | b n x y =>
    exfalso
    have : lastOp (Pt.b n x y).flat = n.f0 := by
      rw [show (Pt.b n x y).flat = (x.flat ++ y.flat) ++ [n] from by simp [Pt.flat]]; exact lastOp_snoc _ _
    rw [this] at h
    have := a.1
    omega
/-- What a node of tidy parts is tidied to. -/
def isNo (p : List S49) : Bool := sameP p [nd 2]
def isNi (p : List S49) : Bool := sameP p [nd 1]
def tidied1 (op : Int) (a : List S49) : List S49 :=
  if op = 6 then (if isNi a = true then [nd 1] else if isNo a = true then [nd 1] else if lastOp a = 6 then a else a ++ [nd op]) else if lastOp a = 7 then a.dropLast else a ++ [nd op]
def tidied2 (op : Int) (a b : List S49) : List S49 :=
  if op = 3 then (if isNo a = true then [nd 2] else if isNo b = true then [nd 2] else if isNi a = true then b else if isNi b = true then a else a ++ (b ++ [nd op]))
  else if op = 4 then (if isNo a = true then b else if sameP a b = true then b else if isNo b = true then a else a ++ (b ++ [nd op]))
  else (if isNo a = true then [nd 2] else if isNo b = true then [nd 2] else if sameP a b = true then a else a ++ (b ++ [nd op]))
def Pt.tid : Pt → List S49
  | .l n => [n]
  | .u n a => tidied1 n.f0 a.tid
  | .b n x y => tidied2 n.f0 x.tid y.tid
theorem isTree_tidied1 {op : Int} {a : List S49} (h : arV op = 1) (ha : isTree a) : isTree (tidied1 op a) := by
  unfold tidied1
  split
  · repeat' split
    all_goals first
      | exact isTree_nd0 (by simp [arV])
      | exact isTree_1 h ha
      | exact ha
  · split
    · rename_i e
      exact isTree_not ha (by rw [e]; simp [arV])
    · exact isTree_1 h ha
theorem isTree_tidied2 {op : Int} {a b : List S49} (h : arV op = 2) (ha : isTree a) (hb : isTree b) : isTree (tidied2 op a b) := by
  unfold tidied2
  repeat' split
  all_goals first
    | exact isTree_nd0 (by simp [arV])
    | exact isTree_2 h ha hb
    | assumption
theorem Pt.tid_tree : ∀ t : Pt, t.ok → t.sets → isTree t.tid
  | .l n, h, hs => ⟨.l n, h, hs, rfl⟩
  | .u n a, h, hs => isTree_tidied1 h.1 (a.tid_tree h.2 (Pt.sets_u.1 hs).1)
  | .b n x y, h, hs => isTree_tidied2 h.1 (x.tid_tree h.2.1 (Pt.sets_b.1 hs).1) (y.tid_tree h.2.2 (Pt.sets_b.1 hs).2.1)
theorem tidied1_len (op : Int) (a : List S49) (_ha : 0 < a.length) : (tidied1 op a).length ≤ a.length + 1 := by
  unfold tidied1
  repeat' split
  all_goals first | omega | (simp <;> omega)
theorem tidied2_len (op : Int) (a b : List S49) : (tidied2 op a b).length ≤ a.length + b.length + 1 := by
  unfold tidied2
  repeat' split
  all_goals first | omega | (simp <;> omega)
theorem Pt.tid_len : ∀ t : Pt, t.ok → t.sets → t.tid.length ≤ t.flat.length
  | .l n, _, _ => by simp [Pt.tid, Pt.flat]
  | .u n a, h, hs => by
    have h1 := a.tid_len h.2 (Pt.sets_u.1 hs).1
    have h2 := tidied1_len n.f0 a.tid (a.tid_tree h.2 (Pt.sets_u.1 hs).1).pos
    simp only [Pt.tid, Pt.flat, List.length_append, List.length_singleton]; omega
  | .b n x y, h, hs => by
    have h1 := x.tid_len h.2.1 (Pt.sets_b.1 hs).1
    have h2 := y.tid_len h.2.2 (Pt.sets_b.1 hs).2.1
    have h3 := tidied2_len n.f0 x.tid y.tid
    simp only [Pt.tid, Pt.flat, List.length_append, List.length_singleton]; omega
theorem rdS_mid (pre : List S49) (x : S49) (post : List S49) : rd_T49 (pre ++ x :: post) ((pre.length : Nat) : Int) = x := by
  rw [rdS_I _ _ (by simp)]; simp
/-- How many marks a list takes. -/
def totRe : List S49 → Int
  | [] => 0
  | x :: l => 1 + (x.f1.length : Int) + totRe l
theorem rd_root (pre post : List S49) (n : S49) (L : List S49) (i : Int) (e : L = pre ++ (n :: post)) (hi : i = (pre.length : Int)) : rd_T49 L i = n := by rw [e, hi]; exact rdS_mid pre n post

/-- Back over a tree's nodes. -/
theorem first_tree (L : List S49) (hL : L.length ≤ 1000000) (r : Int) : ∀ (t : Pt), t.ok → ∀ (pre post : List S49) (need : Int), L = pre ++ (t.flat ++ post) → 1 ≤ need → need + (t.flat.length : Int) ≤ 1000000000 →
    Ev (fun k => spec_l5First.l0 k L (need - 1) ((pre.length : Int) - 1)) r → Ev (fun k => spec_l5First.l0 k L need ((pre.length : Int) + (t.flat.length : Int) - 1)) r := by
  have step : ∀ (pre post : List S49) (n : S49) (need : Int), L = pre ++ (n :: post) → 1 ≤ need → need ≤ 1000000000 → 0 ≤ arV n.f0 →
      Ev (fun k => spec_l5First.l0 k L (need + arV n.f0 - 1) ((pre.length : Int) - 1)) r → Ev (fun k => spec_l5First.l0 k L need (pre.length : Int)) r := by
    intro pre post n need e h1 h2 h3 h
    have hl : pre.length < L.length := by rw [e]; simp
    have ha : arV n.f0 ≤ 2 := by rcases arV_cases n.f0 with h | h | h | h <;> omega
    have e1 : wrap64 (arV n.f0 - 1) = arV n.f0 - 1 := wr _ (by omega) (by omega)
    have e2 : wrap64 (need + (arV n.f0 - 1)) = need + arV n.f0 - 1 := by rw [wr _ (by omega) (by omega)]; omega
    have e3 : wrap64 ((pre.length : Int) - 1) = (pre.length : Int) - 1 := wr _ (by omega) (by omega)
    have er : rd_T49 L ((pre.length : Nat) : Int) = n := by rw [e]; exact rdS_mid pre n post
    refine Ev.step (f := fun k => (spec_l5Arity.f k n.f0).bind fun t => spec_l5First.l0 k L (wrap64 (need + (wrap64 (t - 1)))) (wrap64 ((pre.length : Int) - 1))) (fun k => ?_) (Ev.bind (specAr_ev n.f0) (Ev.congr (fun k => by rw [e1, e2, e3]) h))
    simp only [spec_l5First.l0]
    rw [if_pos (by omega)]
    (try rw [if_pos (show (0 : Int) ≤ ((pre.length : Nat) : Int) from by omega)])
    rw [if_pos (by omega), er]
  intro t
  induction t with
  | l n =>
    intro ho pre post need e h1 h2 h
    have ho' : arV n.f0 = 0 := ho
    have := step pre post n need (by simpa [Pt.flat] using e) h1 (by omega) (by omega) (by rw [ho']; simpa using h)
    simpa [Pt.flat] using this
  | u n a ih =>
    intro ho pre post need e h1 h2 h
    have ho' : arV n.f0 = 1 := ho.1
    simp only [Pt.flat, List.length_append, List.length_singleton] at h2
    have h3 := ih ho.2 pre (n :: post) need (by simpa [Pt.flat] using e) h1 (by omega) h
    have := step (pre ++ a.flat) post n need (by simpa [Pt.flat] using e) h1 (by omega) (by omega) (by rw [ho']; refine Ev.congr (fun k => ?_) h3; simp only [List.length_append]; congr 1 <;> omega)
    refine Ev.congr (fun k => ?_) this
    simp only [Pt.flat, List.length_append, List.length_singleton]
    congr 1 <;> omega
  | b n x y ihx ihy =>
    intro ho pre post need e h1 h2 h
    have ho' : arV n.f0 = 2 := ho.1
    simp only [Pt.flat, List.length_append, List.length_singleton] at h2
    have h3 := ihx ho.2.1 pre (y.flat ++ n :: post) need (by simpa [Pt.flat] using e) h1 (by omega) h
    have h4 := ihy ho.2.2 (pre ++ x.flat) (n :: post) (need + 1) (by simpa [Pt.flat] using e) (by omega) (by omega) (by refine Ev.congr (fun k => ?_) h3; simp only [List.length_append]; congr 1 <;> omega)
    have := step (pre ++ x.flat ++ y.flat) post n need (by simpa [Pt.flat] using e) h1 (by omega) (by omega) (by rw [ho']; refine Ev.congr (fun k => ?_) h4; simp only [List.length_append]; congr 1 <;> omega)
    refine Ev.congr (fun k => ?_) this
    simp only [Pt.flat, List.length_append, List.length_singleton]
    congr 1 <;> omega
/-- The first part's root. -/
theorem first_ev (pre post : List S49) (n : S49) (x y : Pt) (hy : y.ok) (hL : (pre ++ (x.flat ++ (y.flat ++ n :: post))).length ≤ 1000000) :
    Ev (fun k => spec_l5First.f k (pre ++ (x.flat ++ (y.flat ++ n :: post))) ((pre.length : Int) + (x.flat.length : Int) + (y.flat.length : Int))) ((pre.length : Int) + (x.flat.length : Int) - 1) := by
  have hx := x.flat_pos
  simp only [List.length_append, List.length_cons] at hL
  have h0 : Ev (fun k => spec_l5First.l0 k (pre ++ (x.flat ++ (y.flat ++ n :: post))) (1 - 1) (((pre ++ x.flat).length : Nat) - 1 : Int)) ((pre.length : Int) + (x.flat.length : Int) - 1) := by
    refine Ev.step (f := fun _ => some ((pre.length : Int) + (x.flat.length : Int) - 1)) (fun k => ?_) (Ev.now _)
    simp only [spec_l5First.l0]
    rw [if_neg (by omega)]
    simp
  have := first_tree _ (by simp only [List.length_append, List.length_cons]; omega) _ y hy (pre ++ x.flat) (n :: post) 1 (by simp) (by omega) (by omega) h0
  refine Ev.congr (fun k => ?_) this
  unfold spec_l5First.f
  rw [wr _ (by omega) (by omega)]
  simp only [List.length_append]
  congr 1 <;> omega
/-- What parts tells of a tree's nodes, the first of which stands at i. -/
def outsL : Pt → Int → List (List Int)
  | .l _, _ => [[]]
  | .u _ a, i => outsL a i ++ [[i + (a.flat.length : Int) - 1]]
  | .b _ x y, i => outsL x i ++ (outsL y (i + (x.flat.length : Int)) ++ [[i + (x.flat.length : Int) - 1, i + (x.flat.length : Int) + (y.flat.length : Int) - 1]])
theorem outsL_len : ∀ (t : Pt) (i : Int), (outsL t i).length = t.flat.length
  | .l _, _ => rfl
  | .u _ a, i => by simp [outsL, Pt.flat, outsL_len a]
  | .b _ x y, i => by simp [outsL, Pt.flat, outsL_len x, outsL_len y]
theorem parts_step (l : List S49) (hl : l.length ≤ 1000) (pre post : List S49) (n : S49) (e : l = pre ++ (n :: post)) (acc : List (List Int)) (rest top : List Int) (ha : acc.length ≤ pre.length) (hp : (rest ++ top).length ≤ pre.length) (har : arV n.f0 = (top.length : Int)) (r : List (List Int) × Bool)
    (h : Ev (fun k => impl_parts.l0 k (acc ++ [top]) (rest ++ [(pre.length : Int)]) l (l.length : Int) ((pre ++ [n]).length : Int)) r) : Ev (fun k => impl_parts.l0 k acc (rest ++ top) l (l.length : Int) (pre.length : Int)) r := by
  have hj : pre.length < l.length := by rw [e]; simp
  have e1 : wrap64 ((pre.length : Int) + 1) = ((pre ++ [n]).length : Int) := by rw [wr _ (by omega) (by omega)]; simp
  have e2 : wrap64 (((rest ++ top).length : Int) - (top.length : Int)) = ((rest.length : Nat) : Int) := by simp only [List.length_append] at hp ⊢; rw [wr _ (by omega) (by omega)]; omega
  refine Ev.step (fun k => by simp only [impl_parts.l0]; rw [if_pos (by omega), if_pos (by omega), if_pos (by omega), rd_root pre post n l _ e rfl, e1]) (Ev.bind (implAr_ev n.f0) ?_)
  refine Ev.congr (fun k => ?_) h
  simp only [List.length_append] at hp
  rw [har, if_neg (by omega), if_neg (by simp only [List.length_append]; omega), e2, if_pos (by omega), if_pos (by simp only [List.length_append]; omega), Int.toNat_natCast, List.drop_left, List.take_left, clone_v _ (by omega), Option.bind_some, if_pos (by omega), Option.bind_some, if_pos (by omega)]
theorem parts_tree (l : List S49) (hl : l.length ≤ 1000) (r : List (List Int) × Bool) : ∀ (t : Pt), t.ok → ∀ (pre post : List S49) (acc : List (List Int)) (pile : List Int), l = pre ++ (t.flat ++ post) → acc.length ≤ pre.length → pile.length ≤ pre.length →
    Ev (fun k => impl_parts.l0 k (acc ++ outsL t (pre.length : Int)) (pile ++ [(pre.length : Int) + (t.flat.length : Int) - 1]) l (l.length : Int) ((pre ++ t.flat).length : Int)) r → Ev (fun k => impl_parts.l0 k acc pile l (l.length : Int) (pre.length : Int)) r := by
  intro t
  induction t with
  | l n =>
    intro ho pre post acc pile e ha hp h
    have := parts_step l hl pre post n (by simpa [Pt.flat] using e) acc pile [] ha (by simpa using hp) (by simpa [Pt.ok] using ho) r (by
      refine Ev.congr (fun k => ?_) h
      simp only [outsL, Pt.flat, List.length_singleton]
      congr 2 <;> simp)
    simpa using this
  | u n a ih =>
    intro ho pre post acc pile e ha hp h
    have h1 := ih ho.2 pre (n :: post) acc pile (by simpa [Pt.flat] using e) ha hp
    refine h1 ?_
    have ha0 := a.flat_pos
    have := parts_step l hl (pre ++ a.flat) post n (by simpa [Pt.flat] using e) (acc ++ outsL a (pre.length : Int)) pile [(pre.length : Int) + (a.flat.length : Int) - 1] (by simp [outsL_len]; omega) (by simp; omega) (by simpa using ho.1) r (by
      refine Ev.congr (fun k => ?_) h
      simp only [outsL, Pt.flat, List.append_assoc, List.length_append, List.length_singleton]
      congr 3 <;> omega)
    exact this
  | b n x y ihx ihy =>
    intro ho pre post acc pile e ha hp h
    have h1 := ihx ho.2.1 pre (y.flat ++ n :: post) acc pile (by simpa [Pt.flat] using e) ha hp
    refine h1 ?_
    have hx0 := x.flat_pos
    have hy0 := y.flat_pos
    have h2 := ihy ho.2.2 (pre ++ x.flat) (n :: post) (acc ++ outsL x (pre.length : Int)) (pile ++ [(pre.length : Int) + (x.flat.length : Int) - 1]) (by simpa [Pt.flat] using e) (by simp [outsL_len]; omega) (by simp; omega)
    refine h2 ?_
    have := parts_step l hl (pre ++ x.flat ++ y.flat) post n (by simpa [Pt.flat] using e) (acc ++ outsL x (pre.length : Int) ++ outsL y ((pre ++ x.flat).length : Int)) pile [(pre.length : Int) + (x.flat.length : Int) - 1, ((pre ++ x.flat).length : Int) + (y.flat.length : Int) - 1] (by simp [outsL_len]; omega) (by simp; omega) (by simpa using ho.1) r (by
      refine Ev.congr (fun k => ?_) h
      simp only [outsL, Pt.flat, List.append_assoc, List.length_append, List.length_singleton, Int.natCast_add]
      congr 3 <;> omega)
    simpa [List.append_assoc] using this
/-- The parts of a good tree's list. -/
theorem partsT_ev (t : Pt) (ho : t.ok) (hl : t.flat.length ≤ 1000) : Ev (fun k => impl_parts.f k t.flat) (outsL t 0, true) := by
  have := parts_tree t.flat hl (outsL t 0, true) t ho [] [] [] [] (by simp) (by simp) (by simp) (by
    refine Ev.step (f := fun _ => some (outsL t 0, true)) (fun k => ?_) (Ev.now _)
    simp only [impl_parts.l0]
    rw [if_neg (by simp)]
    simp)
  exact Ev.congr (fun k => by unfold impl_parts.f; rfl) this
/-- The spans of a set. -/
def spansV : List Int → List S92
  | a :: b :: r => ⟨a, b⟩ :: spansV r
  | _ => []

theorem spansV_length (l : List Int) : (spansV l).length ≤ l.length := by
  match l with
  | [] => simp [spansV]
  | [_] => simp [spansV]
  | a :: b :: r =>
    have := spansV_length r
    simp only [spansV, List.length_cons]
    omega
termination_by l.length

theorem spansOf_l (l : List Int) (hl : l.length ≤ 4398046511104) : ∀ (d j : Nat) (acc : List S92), l.length ≤ j + 2 * d → j ≤ l.length + 1 → acc.length ≤ j → Ev (fun k => impl_spansOf.l0 k l acc (j : Int)) (acc ++ spansV (l.drop j)) := by
  intro d
  induction d with
  | zero =>
    intro j acc hj hj2 ha
    refine Ev.step (f := fun _ => some (acc ++ spansV (l.drop j))) (fun k => ?_) (Ev.now _)
    simp only [impl_spansOf.l0]
    rw [wr _ (by omega) (by omega), if_neg (by omega), List.drop_of_length_le (by omega)]
    simp [spansV]
  | succ d ih =>
    intro j acc hj hj2 ha
    have e1 : wrap64 ((j : Int) + 1) = ((j + 1 : Nat) : Int) := by rw [wr _ (by omega) (by omega)]; omega
    have e2 : wrap64 ((j : Int) + 2) = ((j + 2 : Nat) : Int) := by rw [wr _ (by omega) (by omega)]; omega
    by_cases h : j + 1 < l.length
    · refine Ev.step (f := fun k => impl_spansOf.l0 k l (acc ++ [(⟨l[j]'(by omega), l[j + 1]'(by omega)⟩ : S92)]) ((j + 2 : Nat) : Int)) (fun k => ?_) ?_
      · simp only [impl_spansOf.l0]
        rw [e1, if_pos (by omega), if_pos (by omega), if_pos (by omega), if_pos (by omega), if_pos (by omega), rd_at l j (by omega), rd_at l (j + 1) (by omega), e2]
      · have := ih (j + 2) (acc ++ [(⟨l[j]'(by omega), l[j + 1]'(by omega)⟩ : S92)]) (by omega) (by omega) (by simp; omega)
        rw [drop_at l j (by omega), drop_at l (j + 1) (by omega)]
        simpa only [spansV, List.append_assoc, List.singleton_append] using this
    · refine Ev.step (f := fun _ => some (acc ++ spansV (l.drop j))) (fun k => ?_) (Ev.now _)
      simp only [impl_spansOf.l0]
      rw [e1, if_neg (by omega)]
      have : spansV (l.drop j) = [] := by
        by_cases z : j < l.length
        · rw [drop_at l j z, List.drop_of_length_le (by omega)]
          rfl
        · rw [List.drop_of_length_le (by omega)]
          rfl
      rw [this, List.append_nil]

theorem spansOf_ev (l : List Int) (hl : l.length ≤ 4398046511104) : Ev (fun k => impl_spansOf.f k l) (spansV l) :=
  Ev.congr (fun k => by unfold impl_spansOf.f; rfl) (by simpa using spansOf_l l hl (l.length) 0 [] (by omega) (by omega) (by simp))

theorem rdS_at (l : List S92) (j : Nat) (h : j < l.length) : rd_T92 l (j : Int) = l[j] := by unfold rd_T92; simp [List.getD_eq_getElem?_getD, h]

/-- Is a number in a set? -/
def memV (r : Int) : List Int → Bool
  | a :: b :: t => inB a b r || memV r t
  | _ => false

theorem specIn_l (l : List Int) (r : Int) (hl : l.length ≤ 4398046511104) : ∀ (d j : Nat), j + 2 * d = l.length → Ev (fun k => spec_l4In.l0 k l r (j : Int)) (memV r (l.drop j)) := by
  intro d
  induction d with
  | zero =>
    intro j hj
    refine Ev.step (f := fun _ => some (memV r (l.drop j))) (fun k => ?_) (Ev.now _)
    simp only [spec_l4In.l0]
    rw [if_neg (by omega), List.drop_of_length_le (by omega)]
    rfl
  | succ d ih =>
    intro j hj
    have e1 : wrap64 ((j : Int) + 1) = ((j + 1 : Nat) : Int) := by rw [wr _ (by omega) (by omega)]; omega
    have e2 : wrap64 ((j : Int) + 2) = ((j + 2 : Nat) : Int) := by rw [wr _ (by omega) (by omega)]; omega
    have hd : l.drop j = l[j]'(by omega) :: l[j + 1]'(by omega) :: l.drop (j + 2) := by rw [drop_at l j (by omega), drop_at l (j + 1) (by omega)]
    rw [hd, memV]
    cases h : inB (l[j]'(by omega)) (l[j + 1]'(by omega)) r with
    | true =>
      refine Ev.step (f := fun _ => some true) (fun k => ?_) (by simpa using Ev.now true)
      simp only [spec_l4In.l0]
      rw [e1, if_pos (by omega), if_pos (by omega), if_pos (by omega), if_pos (by omega), rd_at l j (by omega), rd_at l (j + 1) (by omega), in_s, h]
      simp
    | false =>
      refine Ev.step (f := fun k => spec_l4In.l0 k l r ((j + 2 : Nat) : Int)) (fun k => ?_) (by simpa using ih (j + 2) (by omega))
      simp only [spec_l4In.l0]
      rw [e1, if_pos (by omega), if_pos (by omega), if_pos (by omega), if_pos (by omega), rd_at l j (by omega), rd_at l (j + 1) (by omega), in_s, h, e2]
      simp

theorem specIn_ev (l : List Int) (r : Int) (hl : l.length ≤ 4398046511104) (he : l.length % 2 = 0) : Ev (fun k => spec_l4In.f k l r) (memV r l) :=
  Ev.congr (fun k => by unfold spec_l4In.f; rfl) (by simpa using specIn_l l r hl (l.length / 2) 0 (by omega))

theorem inSpans_mem (r : Int) (l : List Int) : inSpans r (spansV l) = memV r l := by
  match l with
  | [] => rfl
  | [_] => rfl
  | a :: b :: t =>
    have ih := inSpans_mem r t
    unfold inSpans at ih ⊢
    simp only [spansV, memV, List.any_cons, ih]
    rfl
termination_by l.length

theorem implIn_ev (l : List Int) (r : Int) (hl : l.length ≤ 4398046511104) : Ev (fun k => impl_inSet.f k l r) (memV r l) := by
  unfold impl_inSet.f
  refine Ev.bind (spansOf_ev l hl) ?_
  rw [inSpans_mem]
  exact Ev.now _

/-- How a node's kids stand. -/
def NodeP (L : List S49) (k : Nat) (ks : List Int) : Prop :=
  (arV (rd_T49 L (k : Int)).f0 = 0 ∧ ks = []) ∨ (arV (rd_T49 L (k : Int)).f0 = 1 ∧ 1 ≤ k ∧ ks = [(k : Int) - 1]) ∨ (arV (rd_T49 L (k : Int)).f0 = 2 ∧ 1 ≤ k ∧ ∃ f : Nat, f < k ∧ ks = [(f : Int), (k : Int) - 1] ∧ Ev (fun q => spec_l5First.f q L (k : Int)) (f : Int))
theorem rdS_midL (L pre post : List S49) (n : S49) (e : L = pre ++ n :: post) : rd_T49 L (pre.length : Int) = n := by
  subst e; unfold rd_T49; simp [List.getD_eq_getElem?_getD]
theorem getD_l {α : Type} (xs ys : List (List α)) (j : Nat) (h : j < xs.length) : (xs ++ ys).getD j [] = xs.getD j [] := by
  rw [List.getD_eq_getElem?_getD, List.getD_eq_getElem?_getD, List.getElem?_append_left h]
theorem getD_r {α : Type} (xs ys : List (List α)) (j : Nat) (h : xs.length ≤ j) : (xs ++ ys).getD j [] = ys.getD (j - xs.length) [] := by
  rw [List.getD_eq_getElem?_getD, List.getD_eq_getElem?_getD, List.getElem?_append_right h]
theorem nodeP_tree (L : List S49) (hL : L.length ≤ 1000) : ∀ t : Pt, t.ok → ∀ pre post, L = pre ++ (t.flat ++ post) → ∀ j, j < t.flat.length → NodeP L (pre.length + j) ((outsL t (pre.length : Int)).getD j [])
  | .l n, h, pre, post, e, j, hj => by
    simp only [Pt.flat, List.length_singleton] at hj
    obtain rfl : j = 0 := by omega
    refine Or.inl ⟨?_, by simp [outsL]⟩
    rw [Nat.add_zero, rdS_midL L pre post n (by simpa [Pt.flat] using e)]; exact h
  | .u n a, h, pre, post, e, j, hj => by
    simp only [Pt.flat, List.length_append, List.length_singleton] at hj
    simp only [outsL]
    by_cases g : j < a.flat.length
    · have := nodeP_tree L hL a h.2 pre (n :: post) (by simpa [Pt.flat] using e) j g
      rwa [getD_l _ _ _ (by rw [outsL_len]; exact g)]
    · obtain rfl : j = a.flat.length := by omega
      have hp := a.flat_pos
      rw [getD_r _ _ _ (by rw [outsL_len]; omega), outsL_len, Nat.sub_self]
      refine Or.inr (Or.inl ⟨?_, by omega, ?_⟩)
      · have := rdS_midL L (pre ++ a.flat) post n (by simpa [Pt.flat] using e)
        rw [List.length_append] at this
        rw [this]; exact h.1
      · show [_] = [_]; congr 1
  | .b n x y, h, pre, post, e, j, hj => by
    simp only [Pt.flat, List.length_append, List.length_singleton] at hj
    simp only [outsL]
    have hpx := x.flat_pos
    have hpy := y.flat_pos
    by_cases g : j < x.flat.length
    · have := nodeP_tree L hL x h.2.1 pre (y.flat ++ n :: post) (by simpa [Pt.flat] using e) j g
      rwa [getD_l _ _ _ (by rw [outsL_len]; exact g)]
    · rw [getD_r _ _ _ (by rw [outsL_len]; omega), outsL_len]
      by_cases g2 : j - x.flat.length < y.flat.length
      · have := nodeP_tree L hL y h.2.2 (pre ++ x.flat) (n :: post) (by simpa [Pt.flat] using e) (j - x.flat.length) g2
        rw [getD_l _ _ _ (by rw [outsL_len]; exact g2)]
        rw [List.length_append, show pre.length + x.flat.length + (j - x.flat.length) = pre.length + j from by omega, Int.natCast_add] at this
        exact this
      · have e2 : j - x.flat.length = y.flat.length := by omega
        rw [getD_r _ _ _ (by rw [outsL_len]; omega), outsL_len, e2, Nat.sub_self]
        have ej : pre.length + j = pre.length + x.flat.length + y.flat.length := by omega
        have hlen : (pre ++ (x.flat ++ (y.flat ++ n :: post))).length ≤ 1000000 := by
          have : L = pre ++ (x.flat ++ (y.flat ++ n :: post)) := by simpa [Pt.flat] using e
          rw [← this]; omega
        refine Or.inr (Or.inr ⟨?_, by omega, pre.length + x.flat.length - 1, by omega, ?_, ?_⟩)
        · have := rdS_midL L (pre ++ x.flat ++ y.flat) post n (by simpa [Pt.flat] using e)
          rw [List.length_append, List.length_append] at this
          rw [ej, this]; exact h.1
        · show [_, _] = [_, _]
          rw [show ((pre.length + x.flat.length - 1 : Nat) : Int) = (pre.length : Int) + (x.flat.length : Int) - 1 from by omega, show ((pre.length + j : Nat) : Int) - 1 = (pre.length : Int) + (x.flat.length : Int) + (y.flat.length : Int) - 1 from by omega]
        · have := first_ev pre post n x y h.2.2 hlen
          rw [show ((pre.length + j : Nat) : Int) = (pre.length : Int) + (x.flat.length : Int) + (y.flat.length : Int) from by omega, show ((pre.length + x.flat.length - 1 : Nat) : Int) = (pre.length : Int) + (x.flat.length : Int) - 1 from by omega, show L = pre ++ (x.flat ++ (y.flat ++ n :: post)) from by simpa [Pt.flat] using e]
          exact this
theorem arV_0 {a : Int} (h : arV a = 0) : a = 1 ∨ a = 2 := by
  unfold arV at h
  repeat' split at h
  all_goals omega
theorem arV_1 {a : Int} (h : arV a = 1) : a = 6 ∨ a = 7 := by
  unfold arV at h
  repeat' split at h
  all_goals omega
theorem arV_2 {a : Int} (h : arV a = 2) : a = 3 ∨ a = 4 ∨ a = 5 := by
  unfold arV at h
  repeat' split at h
  all_goals omega
theorem kidsOk_of {L : List S49} {parts : List (List Int)} {k : Nat} (h : NodeP L k (parts.getD k [])) : KidsOk L parts k := by
  unfold KidsOk
  rcases h with ⟨h, e⟩ | ⟨h, h1, e⟩ | ⟨h, h1, f, hf, e, _⟩
  · rw [e]
    rcases arV_0 h with g | g
    · exact ⟨Or.inl g, fun x hx => by simp at hx⟩
    · exact ⟨Or.inr (Or.inl g), fun x hx => by simp at hx⟩
  · rw [e]
    exact ⟨Or.inr (Or.inr (Or.inl ⟨arV_1 h, rfl⟩)), fun x hx => by simp at hx; omega⟩
  · rw [e]
    exact ⟨Or.inr (Or.inr (Or.inr ⟨arV_2 h, rfl⟩)), fun x hx => by simp at hx; omega⟩
theorem nodeP_all {t : Pt} (ho : t.ok) (hl : t.flat.length ≤ 1000) (k : Nat) (hk : k < t.flat.length) : NodeP t.flat k ((outsL t 0).getD k []) := by
  have := nodeP_tree t.flat hl t ho [] [] (by simp) k hk
  simpa using this
theorem setOk_all {t : Pt} (hs : t.sets) (k : Nat) (hk : k < t.flat.length) : setOk (rd_T49 t.flat (k : Int)) = true := by
  rw [rdS_I _ k hk]
  exact hs _ (List.getElem_mem _)
theorem mOk_tree {t : Pt} (ho : t.ok) (hl : t.flat.length ≤ 1000) (hr : ∀ x ∈ t.flat, x.f1.length ≤ 1048576) : MOk t.flat (outsL t 0) := by
  refine ⟨outsL_len t 0, hl, t.flat_pos, fun k hk => kidsOk_of (nodeP_all ho hl k hk), fun k hk _ x => ?_⟩
  have hlen : (rd_T49 t.flat (k : Int)).f1.length ≤ 1048576 := by rw [rdS_I _ k hk]; exact hr _ (List.getElem_mem _)
  obtain ⟨q, hq⟩ := Ev.rounds (implIn_ev (rd_T49 t.flat (k : Int)).f1 x (by omega))
  exact ⟨_, q, hq⟩
theorem inV_mem (s : List Int) (x : Int) (hs : s.length ≤ 1048576) : inV s x = memV x s := by
  have h := implIn_ev s x (by omega)
  obtain ⟨k, hk⟩ := Ev.rounds h
  obtain ⟨k2, hk2⟩ := inV_at ⟨_, k, hk⟩
  obtain ⟨K1, e1⟩ := h
  obtain ⟨K2, e2⟩ := Ev.of (impl_inSet.mono s x) hk2
  have a1 := e1 (K1 + K2) (by omega)
  have a2 := e2 (K1 + K2) (by omega)
  rw [a1] at a2
  exact (Option.some.inj a2).symm
theorem idx_w {a n b : Nat} (ha : a ≤ 1000) (hn : n ≤ 1000) (hb : b ≤ 1000) : wrap64 ((wrap64 ((a : Int) * (wrap64 ((n : Int) + 1)))) + (b : Int)) = ((a * (n + 1) + b : Nat) : Int) := by
  have h := Nat.mul_le_mul ha (show n + 1 ≤ 1001 by omega)
  have e : (a : Int) * ((n : Int) + 1) = ((a * (n + 1) : Nat) : Int) := by rw [Int.natCast_mul, Int.natCast_add]; rfl
  rw [wr ((n : Int) + 1) (by omega) (by omega), e, wr ((a * (n + 1) : Nat) : Int) (by omega) (by omega), wr _ (by omega) (by omega)]
  omega
theorem idx_lt {a n b : Nat} (ha : a ≤ n) (hb : b ≤ n) : a * (n + 1) + b < (n + 1) * (n + 1) := by
  have := Nat.mul_le_mul_right (n + 1) ha
  rw [Nat.succ_mul]
  omega
theorem rdOf_nat (t : List Bool) (j : Nat) : rdOf false t (j : Int) = t.getD j false := by unfold rdOf; simp
theorem rdL5_nat (t : List (List Bool)) (j : Nat) : rd_L5 t (j : Int) = t.getD j [] := by unfold rd_L5; simp
/-- A row of the table tells F. -/
def RowF (n : Nat) (F : Nat → Nat → Bool) (t : List Bool) : Prop := t.length = (n + 1) * (n + 1) ∧ ∀ a b, a ≤ b → b ≤ n → t.getD (a * (n + 1) + b) false = F a b
theorem starL_ev {all : List (List Bool)} {t : List Bool} {n k a b : Nat} {F0 F1 : Nat → Nat → Bool} (hk1 : 1 ≤ k) (hk : k ≤ 1000) (hn : n ≤ 1000) (hab : a ≤ b) (hb : b ≤ n) (hal : all.length = k) (hR : RowF n F0 (all.getD (k - 1) [])) (ht : Aside0 (t.length = (n + 1) * (n + 1))) (hT : ∀ i, a < i → i ≤ b → t.getD (i * (n + 1) + b) false = F1 i b ∨ i = b) (hbb : F1 b b = true) :
    ∀ d m, m + d = b + 1 → a < m → (∀ i, a < i → i < m → (F0 a i && F1 i b) = false) → Ev (fun q => spec_l5Cell.l0 q all t (k : Int) (a : Int) (b : Int) (wrap64 ((n : Int) + 1)) (m : Int)) (anyFT (a + 1) b fun i => F0 a i && F1 i b) := by
  intro d
  induction d with
  | zero =>
    intro m hm ham hno
    rw [anyFT_false fun i h1 h2 => hno i (by omega) (by omega)]
    refine Ev.step (f := fun _ => some false) (fun q => ?_) (Ev.now _)
    simp only [spec_l5Cell.l0]
    rw [if_neg (by omega)]
  | succ d ih =>
    intro m hm ham hno
    have hw : wrap64 ((k : Int) - 1) = ((k - 1 : Nat) : Int) := by rw [wr _ (by omega) (by omega)]; omega
    have hw2 : wrap64 ((m : Int) + 1) = ((m + 1 : Nat) : Int) := by rw [wr _ (by omega) (by omega)]; omega
    have i1 := idx_lt (a := a) (n := n) (b := m) (by omega) (by omega)
    have i2 := idx_lt (a := m) (n := n) (b := b) (by omega) (by omega)
    have v1 := hR.2 a m (by omega) (by omega)
    have hl := hR.1
    by_cases c1 : F0 a m = true
    · by_cases c2 : m = b
      · subst c2
        rw [anyFT_true m (by omega) (Nat.le_refl _) (by rw [c1, hbb]; rfl)]
        refine Ev.step (f := fun _ => some true) (fun q => ?_) (Ev.now _)
        simp only [spec_l5Cell.l0]
        rw [if_pos (by omega), hw, if_pos (by omega), if_pos (by omega), idx_w (by omega) hn (by omega), if_pos (by omega), rdL5_nat, if_pos (by rw [hl]; omega), rdOf_nat, v1, if_pos c1, if_pos trivial]
      · have v2 := (hT m ham (by omega)).resolve_right c2
        by_cases c3 : F1 m b = true
        · rw [anyFT_true m (by omega) (by omega) (by rw [c1, c3]; rfl)]
          refine Ev.step (f := fun _ => some true) (fun q => ?_) (Ev.now _)
          simp only [spec_l5Cell.l0]
          rw [if_pos (by omega), hw, if_pos (by omega), if_pos (by omega), idx_w (by omega) hn (by omega), if_pos (by omega), rdL5_nat, if_pos (by rw [hl]; omega), rdOf_nat, v1, if_pos c1, if_neg (by omega), idx_w (by omega) hn (by omega), if_pos (by omega), if_pos (by rw [ht.out]; omega), rdOf_nat, v2, if_pos c3]
        · refine Ev.step (f := fun q => spec_l5Cell.l0 q all t (k : Int) (a : Int) (b : Int) (wrap64 ((n : Int) + 1)) ((m + 1 : Nat) : Int)) (fun q => ?_) (ih (m + 1) (by omega) (by omega) fun i h1 h2 => by
            by_cases e : i = m
            · subst e; rw [Bool.eq_false_iff.2 c3, Bool.and_false]
            · exact hno i h1 (by omega))
          simp only [spec_l5Cell.l0]
          rw [if_pos (by omega), hw, if_pos (by omega), if_pos (by omega), idx_w (by omega) hn (by omega), if_pos (by omega), rdL5_nat, if_pos (by rw [hl]; omega), rdOf_nat, v1, if_pos c1, if_neg (by omega), idx_w (by omega) hn (by omega), if_pos (by omega), if_pos (by rw [ht.out]; omega), rdOf_nat, v2, if_neg c3, hw2]
    · refine Ev.step (f := fun q => spec_l5Cell.l0 q all t (k : Int) (a : Int) (b : Int) (wrap64 ((n : Int) + 1)) ((m + 1 : Nat) : Int)) (fun q => ?_) (ih (m + 1) (by omega) (by omega) fun i h1 h2 => by
        by_cases e : i = m
        · subst e; rw [Bool.eq_false_iff.2 c1, Bool.false_and]
        · exact hno i h1 (by omega))
      simp only [spec_l5Cell.l0]
      rw [if_pos (by omega), hw, if_pos (by omega), if_pos (by omega), idx_w (by omega) hn (by omega), if_pos (by omega), rdL5_nat, if_pos (by rw [hl]; omega), rdOf_nat, v1, if_neg c1, hw2]
theorem catL_ev {ta tb : List Bool} {n a b : Nat} {F0 F1 : Nat → Nat → Bool} (hn : n ≤ 1000) (hab : a ≤ b) (hb : b ≤ n) (hA : RowF n F0 ta) (hB : RowF n F1 tb) :
    ∀ d m, m + d = b + 1 → a ≤ m → (∀ i, a ≤ i → i < m → (F0 a i && F1 i b) = false) → Ev (fun q => spec_l5Cell.l1 q (a : Int) (b : Int) (wrap64 ((n : Int) + 1)) ta tb (m : Int)) (anyFT a b fun i => F0 a i && F1 i b) := by
  intro d
  induction d with
  | zero =>
    intro m hm ham hno
    rw [anyFT_false fun i h1 h2 => hno i (by omega) (by omega)]
    refine Ev.step (f := fun _ => some false) (fun q => ?_) (Ev.now _)
    simp only [spec_l5Cell.l1]
    rw [if_neg (by omega)]
  | succ d ih =>
    intro m hm ham hno
    have hw2 : wrap64 ((m : Int) + 1) = ((m + 1 : Nat) : Int) := by rw [wr _ (by omega) (by omega)]; omega
    have i1 := idx_lt (a := a) (n := n) (b := m) (by omega) (by omega)
    have i2 := idx_lt (a := m) (n := n) (b := b) (by omega) (by omega)
    have v1 := hA.2 a m (by omega) (by omega)
    have v2 := hB.2 m b (by omega) (by omega)
    have hl := hA.1
    have hl2 := hB.1
    by_cases c1 : F0 a m = true
    · by_cases c3 : F1 m b = true
      · rw [anyFT_true m (by omega) (by omega) (by rw [c1, c3]; rfl)]
        refine Ev.step (f := fun _ => some true) (fun q => ?_) (Ev.now _)
        simp only [spec_l5Cell.l1]
        rw [if_pos (by omega), idx_w (by omega) hn (by omega), if_pos (by omega), if_pos (by rw [hl]; omega), rdOf_nat, v1, if_pos c1, idx_w (by omega) hn (by omega), if_pos (by omega), if_pos (by rw [hl2]; omega), rdOf_nat, v2, if_pos c3]
      · refine Ev.step (f := fun q => spec_l5Cell.l1 q (a : Int) (b : Int) (wrap64 ((n : Int) + 1)) ta tb ((m + 1 : Nat) : Int)) (fun q => ?_) (ih (m + 1) (by omega) (by omega) fun i h1 h2 => by
          by_cases e : i = m
          · subst e; rw [Bool.eq_false_iff.2 c3, Bool.and_false]
          · exact hno i h1 (by omega))
        simp only [spec_l5Cell.l1]
        rw [if_pos (by omega), idx_w (by omega) hn (by omega), if_pos (by omega), if_pos (by rw [hl]; omega), rdOf_nat, v1, if_pos c1, idx_w (by omega) hn (by omega), if_pos (by omega), if_pos (by rw [hl2]; omega), rdOf_nat, v2, if_neg c3, hw2]
    · refine Ev.step (f := fun q => spec_l5Cell.l1 q (a : Int) (b : Int) (wrap64 ((n : Int) + 1)) ta tb ((m + 1 : Nat) : Int)) (fun q => ?_) (ih (m + 1) (by omega) (by omega) fun i h1 h2 => by
        by_cases e : i = m
        · subst e; rw [Bool.eq_false_iff.2 c1, Bool.false_and]
        · exact hno i h1 (by omega))
      simp only [spec_l5Cell.l1]
      rw [if_pos (by omega), idx_w (by omega) hn (by omega), if_pos (by omega), if_pos (by rw [hl]; omega), rdOf_nat, v1, if_neg c1, hw2]
theorem kd0_of {parts : List (List Int)} {k : Nat} {xs : List Int} {f : Nat} (e : parts.getD k [] = (f : Int) :: xs) : kd parts k 0 = f := by
  unfold kd
  rw [e]
  simp [rd]
theorem kd1_of {parts : List (List Int)} {k : Nat} {x : Int} {xs : List Int} {f : Nat} (e : parts.getD k [] = x :: (f : Int) :: xs) : kd parts k 1 = f := by
  unfold kd
  rw [e]
  simp [rd]
theorem cell_ev {L : List S49} {parts : List (List Int)} {l : List Int} {all : List (List Bool)} {t : List Bool} {k a b : Nat} (hN : NodeP L k (parts.getD k [])) (hKs : ∀ i, i ≤ k → KidsOk L parts i) (hk : k ≤ 1000) (hl : l.length ≤ 1000) (hset : (rd_T49 L (k : Int)).f1.length % 2 = 0) (hslen : (rd_T49 L (k : Int)).f1.length ≤ 1048576) (hal : all.length = k) (hA : ∀ i, i < k → RowF l.length (reF inV L parts l i) (all.getD i [])) (ht : Aside0 (t.length = (l.length + 1) * (l.length + 1))) (hT : ∀ i, a < i → i ≤ b → t.getD (i * (l.length + 1) + b) false = reF inV L parts l k i b) (hab : a ≤ b) (hb : b ≤ l.length) :
    Ev (fun q => spec_l5Cell.f q L all t l (k : Int) (rd_T49 L (k : Int)).f0 (rd_T49 L (k : Int)).f1 (a : Int) (b : Int)) (reF inV L parts l k a b) := by
  have d1 : Aside0 (a + 1 + (b - a) = b + 1) := ⟨by clear hT; omega⟩
  have ix := Aside0.mk (idx_w (a := a) (n := l.length) (b := b) (by omega) hl (by omega))
  have il := Aside0.mk (idx_lt (a := a) (n := l.length) (b := b) (by omega) hb)
  have hstep := reF_step (I := inV) (l := l) hKs hab hb
  rw [← hstep]
  rcases hN with ⟨h, e⟩ | ⟨h, h1, e⟩ | ⟨h, h1, f, hf, e, hfe⟩
  · rcases arV_0 h with g | g
    · rw [lookF_nil _ _ _ _ _ _ _ _ g, g]
      refine Ev.congr (f := fun _ => some (decide (a = b))) (fun q => ?_) (Ev.now _)
      unfold spec_l5Cell.f
      rw [if_pos rfl]
      congr 1
      rw [Bool.eq_iff_iff, beq_iff_eq, decide_eq_true_iff]; omega
    · rw [lookF_set _ _ _ _ _ _ _ _ g, g]
      have hw := wr ((a : Int) + 1) (by omega) (by omega)
      by_cases c : b = a + 1
      · rw [if_pos c, inV_mem _ _ hslen]
        refine Ev.congr (fun q => by unfold spec_l5Cell.f; rw [if_neg (by decide), if_pos rfl, hw, if_pos (by omega), if_pos (by omega), if_pos (by omega)]) (Ev.bind (specIn_ev _ _ (by omega) hset) (Ev.now _))
      · rw [if_neg c]
        exact Ev.congr (fun q => by unfold spec_l5Cell.f; rw [if_neg (by decide), if_pos rfl, hw, if_neg (by omega)]) (Ev.now false)
  · have hw : wrap64 ((k : Int) - 1) = ((k - 1 : Nat) : Int) := by rw [wr _ (by omega) (by omega)]; omega
    have e' : parts.getD k [] = ((k - 1 : Nat) : Int) :: [] := by rw [e, show ((k - 1 : Nat) : Int) = (k : Int) - 1 from by omega]
    have ek := kd0_of e'
    have hR := hA (k - 1) (by omega)
    rcases arV_1 h with g | g
    · have hbb : reF inV L parts l k b b = true := by
        rw [← reF_step (I := inV) (l := l) hKs (Nat.le_refl b) hb, lookF_star _ _ _ _ _ _ _ _ g, if_pos rfl]
      rw [lookF_star _ _ _ _ _ _ _ _ g, g, ek]
      by_cases c : a = b
      · rw [if_pos c]
        exact Ev.congr (fun q => by unfold spec_l5Cell.f; rw [if_neg (by decide), if_neg (by decide), if_neg (by decide), if_pos rfl, if_pos (by omega)]) (Ev.now true)
      · rw [if_neg c]
        have hw2 : wrap64 ((a : Int) + 1) = ((a + 1 : Nat) : Int) := by rw [wr _ (by omega) (by omega)]; omega
        have c' : ¬ ((a : Int) = (b : Int)) := fun q => c (Int.ofNat.inj q)
        have QQ := starL_ev (n := l.length) (F0 := reF inV L parts l (k - 1)) (F1 := reF inV L parts l k) h1 hk hl hab hb hal hR ht (fun i g1 g2 => Or.inl (hT i g1 g2)) hbb (b - a) (a + 1) d1.out (Nat.lt_succ_self a) (fun i g1 g2 => absurd g2 (Nat.not_lt.2 g1))
        refine Ev.congr (f := fun q => spec_l5Cell.l0 q all t (k : Int) (a : Int) (b : Int) (wrap64 ((l.length : Int) + 1)) ((a + 1 : Nat) : Int)) (fun q => ?_) QQ
        clear QQ
        unfold spec_l5Cell.f
        rw [if_neg (by decide), if_neg (by decide), if_neg (by decide), if_pos rfl, if_neg c', hw2]
    · rw [lookF_not _ _ _ _ _ _ _ _ g, g, ek]
      have v := hR.2 a b hab hb
      have hlen := Aside0.mk hR.1
      refine Ev.congr (f := fun _ => some (!reF inV L parts l (k - 1) a b)) (fun q => ?_) (Ev.now _)
      unfold spec_l5Cell.f
      rw [if_neg (by decide), if_neg (by decide), if_pos rfl, hw, if_pos (by omega), if_pos (by omega), ix.out, if_pos (by omega), rdL5_nat, if_pos (by rw [hlen.out]; exact Int.ofNat_lt.2 il.out), rdOf_nat, v]
  · have hw : wrap64 ((k : Int) - 1) = ((k - 1 : Nat) : Int) := by rw [wr _ (by omega) (by omega)]; omega
    have e' : parts.getD k [] = (f : Int) :: ((k - 1 : Nat) : Int) :: [] := by rw [e, show ((k - 1 : Nat) : Int) = (k : Int) - 1 from by omega]
    have ek := kd0_of e'
    have ek1 := kd1_of e'
    have hR0 := hA f hf
    have hR1 := hA (k - 1) (by omega)
    have v0 := hR0.2 a b hab hb
    have v1 := hR1.2 a b hab hb
    have hl0 := Aside0.mk hR0.1
    have hl1 := Aside0.mk hR1.1
    rcases arV_2 h with g | g | g
    · rw [lookF_cat _ _ _ _ _ _ _ _ g, g, ek, ek1]
      refine Ev.congr (fun q => by unfold spec_l5Cell.f; rw [if_neg (by decide), if_neg (by decide), if_neg (by decide), if_neg (by decide)]) (Ev.bind hfe ?_)
      refine Ev.congr (fun q => by rw [if_pos (by omega), if_pos (by omega), hw, if_pos (by omega), if_pos (by omega), if_neg (by decide), if_neg (by decide), rdL5_nat, rdL5_nat]) ?_
      exact catL_ev (n := l.length) (F0 := reF inV L parts l f) (F1 := reF inV L parts l (k - 1)) hl hab hb hR0 hR1 (b + 1 - a) a (by omega) (Nat.le_refl _) (fun i g1 g2 => by omega)
    · rw [lookF_or _ _ _ _ _ _ _ _ g, g, ek, ek1]
      refine Ev.congr (fun q => by unfold spec_l5Cell.f; rw [if_neg (by decide), if_neg (by decide), if_neg (by decide), if_neg (by decide)]) (Ev.bind hfe ?_)
      refine Ev.congr (f := fun _ => some (reF inV L parts l f a b || reF inV L parts l (k - 1) a b)) (fun q => ?_) (Ev.now _)
      rw [if_pos (by omega), if_pos (by omega), hw, if_pos (by omega), if_pos (by omega), if_pos rfl, ix.out, if_pos (by omega), rdL5_nat, if_pos (by rw [hl0.out]; exact Int.ofNat_lt.2 il.out), rdL5_nat, rdOf_nat, rdOf_nat, v0, v1]
      cases reF inV L parts l f a b
      · rw [if_neg (by simp), if_pos (by rw [hl1.out]; exact Int.ofNat_lt.2 il.out), Bool.false_or]
      · rw [if_pos rfl, Bool.true_or]
    · rw [lookF_and _ _ _ _ _ _ _ _ g, g, ek, ek1]
      refine Ev.congr (fun q => by unfold spec_l5Cell.f; rw [if_neg (by decide), if_neg (by decide), if_neg (by decide), if_neg (by decide)]) (Ev.bind hfe ?_)
      refine Ev.congr (f := fun _ => some (reF inV L parts l f a b && reF inV L parts l (k - 1) a b)) (fun q => ?_) (Ev.now _)
      rw [if_pos (by omega), if_pos (by omega), hw, if_pos (by omega), if_pos (by omega), if_neg (by decide), if_pos rfl, ix.out, if_pos (by omega), rdL5_nat, if_pos (by rw [hl0.out]; exact Int.ofNat_lt.2 il.out), rdL5_nat, rdOf_nat, rdOf_nat, v0, v1]
      cases reF inV L parts l f a b
      · rw [if_neg (by simp), Bool.false_and]
      · rw [if_pos rfl, if_pos (by rw [hl1.out]; exact Int.ofNat_lt.2 il.out), Bool.true_and]
theorem set_same {t : List Bool} {i : Nat} {x : Bool} (h : i < t.length) : (t.set i x).getD i false = x := by
  rw [List.getD_eq_getElem?_getD, List.getElem?_set_self h]; rfl
theorem set_other {t : List Bool} {i j : Nat} {x : Bool} (h : i ≠ j) : (t.set i x).getD j false = t.getD j false := by
  rw [List.getD_eq_getElem?_getD, List.getElem?_set_ne h, ← List.getD_eq_getElem?_getD]
theorem row2_ev {L : List S49} {parts : List (List Int)} {l : List Int} {all : List (List Bool)} {k a : Nat} (hN : NodeP L k (parts.getD k [])) (hKs : ∀ i, i ≤ k → KidsOk L parts i) (hk : k ≤ 1000) (hl : l.length ≤ 1000) (hset : (rd_T49 L (k : Int)).f1.length % 2 = 0) (hslen : (rd_T49 L (k : Int)).f1.length ≤ 1048576) (hal : all.length = k) (hA : ∀ i, i < k → RowF l.length (reF inV L parts l i) (all.getD i [])) (ha : a ≤ l.length) :
    ∀ (d b : Nat) (t : List Bool), b + d = l.length + 1 → a ≤ b → Aside0 (t.length = (l.length + 1) * (l.length + 1)) → Aside0 (∀ i j, a < i → i ≤ j → j ≤ l.length → t.getD (i * (l.length + 1) + j) false = reF inV L parts l k i j) → Aside0 (∀ j, a ≤ j → j < b → t.getD (a * (l.length + 1) + j) false = reF inV L parts l k a j) →
    ∃ t' : List Bool, Aside0 (t'.length = (l.length + 1) * (l.length + 1)) ∧ Aside0 (∀ i j, a ≤ i → i ≤ j → j ≤ l.length → t'.getD (i * (l.length + 1) + j) false = reF inV L parts l k i j) ∧ ∀ r, Ev (fun q => spec_l5Table.l1 q L l (wrap64 ((l.length : Int) + 1)) all (k : Int) t' ((a : Int) - 1) L (L.length : Int) (k : Int) (rd_T49 L (k : Int)).f0 (rd_T49 L (k : Int)).f1) r → Ev (fun q => spec_l5Table.l2 q L l (wrap64 ((l.length : Int) + 1)) all (k : Int) t (a : Int) (b : Int) L (L.length : Int) (k : Int) (rd_T49 L (k : Int)).f0 (rd_T49 L (k : Int)).f1) r := by
  intro d
  have hN1 : wrap64 ((l.length : Int) + 1) = (l.length : Int) + 1 := wr _ (by omega) (by omega)
  induction d with
  | zero =>
    intro b t hb hab ht h1 h2
    refine ⟨t, ht, ⟨fun i j g1 g2 g3 => ?_⟩, fun r hr => ?_⟩
    · by_cases e : i = a
      · subst e; exact h2.out j g2 (by omega)
      · exact h1.out i j (by omega) g2 g3
    · refine Ev.step (fun q => ?_) hr
      simp only [spec_l5Table.l2]
      rw [if_neg (by rw [hN1]; omega), wr ((a : Int) - 1) (by omega) (by omega)]
  | succ d ih =>
    intro b t hb hab ht h1 h2
    have hbl : b ≤ l.length := by omega
    have hc := Aside0.mk (cell_ev hN hKs hk hl hset hslen hal hA ht (fun i g1 g2 => h1.out i b g1 g2 hbl) hab hbl)
    have il := Aside0.mk (idx_lt (a := a) (n := l.length) (b := b) ha hbl)
    have ix := Aside0.mk (idx_w (a := a) (n := l.length) (b := b) (by omega) hl (by omega))
    have hw2 : wrap64 ((b : Int) + 1) = ((b + 1 : Nat) : Int) := by rw [wr _ (by omega) (by omega)]; omega
    have hset2 : Aside0 (∀ x : Bool, (t.set (a * (l.length + 1) + b) x).length = (l.length + 1) * (l.length + 1)) := ⟨fun x => by rw [List.length_set]; exact ht.out⟩
    obtain ⟨t', g1, g2, g3⟩ := ih (b + 1) (t.set (a * (l.length + 1) + b) (reF inV L parts l k a b)) (by omega) (by omega) ⟨hset2.out _⟩
      ⟨fun i j q1 q2 q3 => by
        have hm := Nat.mul_le_mul_right (l.length + 1) (show a + 1 ≤ i from q1)
        rw [Nat.succ_mul] at hm
        rw [set_other (by omega)]; exact h1.out i j q1 q2 q3⟩
      ⟨fun j q1 q2 => by
        by_cases e : j = b
        · subst e; exact set_same (by rw [ht.out]; exact il.out)
        · rw [set_other (by omega)]; exact h2.out j q1 (by omega)⟩
    refine ⟨t', g1, g2, fun r hr => ?_⟩
    refine Ev.step (f := fun q => (spec_l5Cell.f q L all t l (k : Int) (rd_T49 L (k : Int)).f0 (rd_T49 L (k : Int)).f1 (a : Int) (b : Int)).bind fun x => spec_l5Table.l2 q L l (wrap64 ((l.length : Int) + 1)) all (k : Int) (t.set (a * (l.length + 1) + b) x) (a : Int) ((b + 1 : Nat) : Int) L (L.length : Int) (k : Int) (rd_T49 L (k : Int)).f0 (rd_T49 L (k : Int)).f1) (fun q => ?_) (Ev.bind hc.out (g3 r hr))
    simp only [spec_l5Table.l2]
    rw [if_pos (by rw [hN1]; omega)]
    congr 1
    funext x
    rw [ix.out, if_pos (by omega), if_pos (by rw [ht.out]; exact Int.ofNat_lt.2 il.out), Int.toNat_natCast, hw2]
theorem row1_ev {L : List S49} {parts : List (List Int)} {l : List Int} {all : List (List Bool)} {k : Nat} (hN : NodeP L k (parts.getD k [])) (hKs : ∀ i, i ≤ k → KidsOk L parts i) (hk : k ≤ 1000) (hl : l.length ≤ 1000) (hset : (rd_T49 L (k : Int)).f1.length % 2 = 0) (hslen : (rd_T49 L (k : Int)).f1.length ≤ 1048576) (hal : all.length = k) (hA : ∀ i, i < k → RowF l.length (reF inV L parts l i) (all.getD i [])) :
    ∀ (c : Nat) (t : List Bool), c ≤ l.length + 1 → Aside0 (t.length = (l.length + 1) * (l.length + 1)) → Aside0 (∀ i j, c ≤ i → i ≤ j → j ≤ l.length → t.getD (i * (l.length + 1) + j) false = reF inV L parts l k i j) →
    ∃ t' : List Bool, RowF l.length (reF inV L parts l k) t' ∧ ∀ r, Ev (fun q => spec_l5Table.l0 q L l (wrap64 ((l.length : Int) + 1)) (all ++ [t']) L (L.length : Int) ((k + 1 : Nat) : Int)) r → Ev (fun q => spec_l5Table.l1 q L l (wrap64 ((l.length : Int) + 1)) all (k : Int) t ((c : Int) - 1) L (L.length : Int) (k : Int) (rd_T49 L (k : Int)).f0 (rd_T49 L (k : Int)).f1) r := by
  intro c
  have hk1 : wrap64 ((k : Int) + 1) = ((k + 1 : Nat) : Int) := by rw [wr _ (by omega) (by omega)]; omega
  induction c with
  | zero =>
    intro t hc ht h1
    refine ⟨t, ⟨ht.out, fun a b g1 g2 => h1.out a b (Nat.zero_le _) g1 g2⟩, fun r hr => ?_⟩
    refine Ev.step (fun q => ?_) hr
    simp only [spec_l5Table.l1]
    rw [if_neg (by omega), if_pos (by omega), hk1]
  | succ c ih =>
    intro t hc ht h1
    obtain ⟨t1, g1, g2, g3⟩ := row2_ev (a := c) hN hKs hk hl hset hslen hal hA (by omega) (l.length + 1 - c) c t (by omega) (Nat.le_refl _) ht ⟨fun i j q1 q2 q3 => h1.out i j q1 q2 q3⟩ ⟨fun j q1 q2 => by omega⟩
    obtain ⟨t', k1, k2⟩ := ih t1 (by omega) g1 g2
    refine ⟨t', k1, fun r hr => ?_⟩
    refine Ev.step (fun q => ?_) (g3 r (k2 r hr))
    simp only [spec_l5Table.l1]
    rw [show ((c + 1 : Nat) : Int) - 1 = (c : Int) from by omega, if_pos (by omega)]
theorem table_ev {L : List S49} {parts : List (List Int)} {l : List Int} (hL : L.length ≤ 1000) (hl : l.length ≤ 1000) (hN : ∀ k, k < L.length → NodeP L k (parts.getD k [])) (hset : ∀ k : Nat, k < L.length → (rd_T49 L (k : Int)).f1.length % 2 = 0 ∧ (rd_T49 L (k : Int)).f1.length ≤ 1048576) :
    ∀ (d k : Nat) (all : List (List Bool)), k + d = L.length → all.length = k → (∀ i, i < k → RowF l.length (reF inV L parts l i) (all.getD i [])) →
    ∃ tab : List (List Bool), tab.length = L.length ∧ (∀ i, i < L.length → RowF l.length (reF inV L parts l i) (tab.getD i [])) ∧ Ev (fun q => spec_l5Table.l0 q L l (wrap64 ((l.length : Int) + 1)) all L (L.length : Int) (k : Int)) tab := by
  intro d
  have hKs : ∀ i, i < L.length → KidsOk L parts i := fun i hi => kidsOk_of (hN i hi)
  induction d with
  | zero =>
    intro k all hk hal hA
    refine ⟨all, by omega, fun i hi => hA i (by omega), ?_⟩
    refine Ev.step (f := fun _ => some all) (fun q => ?_) (Ev.now _)
    simp only [spec_l5Table.l0]
    rw [if_neg (by omega)]
  | succ d ih =>
    intro k all hk hal hA
    have hkl : k < L.length := by omega
    obtain ⟨z, hz⟩ : ∃ z, z = (l.length + 1) * (l.length + 1) := ⟨_, rfl⟩
    have hz1 : z ≤ 1001 * 1001 := by rw [hz]; exact Nat.mul_le_mul (by omega) (by omega)
    obtain ⟨t', k1, k2⟩ := row1_ev (hN k hkl) (fun i hi => hKs i (by omega)) (by omega) hl (hset k hkl).1 (hset k hkl).2 hal hA (l.length + 1) (List.replicate z false) (Nat.le_refl _) ⟨by rw [List.length_replicate, hz]⟩ ⟨fun i j q1 q2 q3 => by omega⟩
    obtain ⟨tab, m1, m2, m3⟩ := ih (k + 1) (all ++ [t']) (by omega) (by simp [hal]) (fun i hi => by
      by_cases e : i < k
      · rw [getD_l _ _ _ (by omega)]; exact hA i e
      · obtain rfl : i = k := by omega
        rw [getD_r _ _ _ (by omega), hal, Nat.sub_self]; exact k1)
    refine ⟨tab, m1, m2, ?_⟩
    have hw : wrap64 ((wrap64 ((l.length : Int) + 1)) * (wrap64 ((l.length : Int) + 1))) = ((z : Nat) : Int) := by
      have e : ((l.length : Int) + 1) * ((l.length : Int) + 1) = ((z : Nat) : Int) := by rw [hz, Int.natCast_mul, Int.natCast_add]; rfl
      rw [wr ((l.length : Int) + 1) (by omega) (by omega), e, wr _ (by omega) (by omega)]
    have hw3 : wrap64 ((wrap64 ((l.length : Int) + 1)) - 1) = ((l.length + 1 : Nat) : Int) - 1 := by rw [wr ((l.length : Int) + 1) (by omega) (by omega), wr _ (by omega) (by omega)]; omega
    refine Ev.step (fun q => ?_) (k2 _ m3)
    simp only [spec_l5Table.l0]
    rw [if_pos (by omega), if_pos (by omega), if_pos (by omega), hw, if_pos (by omega), Int.toNat_natCast, if_pos (by omega), hw3]
theorem rdS_mem {L : List S49} {k : Nat} (h : k < L.length) : rd_T49 L (k : Int) ∈ L := by rw [rdS_I _ k h]; exact List.getElem_mem _
theorem even_of {x : S49} (h : setOk x = true) : x.f1.length % 2 = 0 := by
  unfold setOk at h
  rw [Bool.and_eq_true] at h
  have h2 := h.1
  unfold GoodS at h2
  rw [Bool.and_eq_true] at h2
  exact good_even _ _ h2.1
theorem matches_ev {t : Pt} (ho : t.ok) (hs : t.sets) (hL : t.flat.length ≤ 1000) (hr : ∀ x ∈ t.flat, x.f1.length ≤ 1048576) (l : List Int) (hl : l.length ≤ 1000) : Ev (fun q => spec_l5Matches.f q t.flat l) (reF inV t.flat (outsL t 0) l (t.flat.length - 1) 0 l.length) := by
  have hp := t.flat_pos
  obtain ⟨tab, h1, h2, h3⟩ := table_ev (L := t.flat) (parts := outsL t 0) (l := l) hL hl (fun k hk => nodeP_all ho hL k hk) (fun k hk => ⟨even_of (hs _ (rdS_mem hk)), hr _ (rdS_mem hk)⟩) t.flat.length 0 [] (by omega) rfl (fun i hi => by omega)
  have hR := h2 (t.flat.length - 1) (by omega)
  have hlen := Aside0.mk hR.1
  have v := hR.2 0 l.length (Nat.zero_le _) (Nat.le_refl _)
  rw [Nat.zero_mul, Nat.zero_add] at v
  have il := Aside0.mk (idx_lt (a := 0) (n := l.length) (b := l.length) (Nat.zero_le _) (Nat.le_refl _))
  have hw : wrap64 ((t.flat.length : Int) - 1) = ((t.flat.length - 1 : Nat) : Int) := by rw [wr _ (by omega) (by omega)]; omega
  have h4 : Ev (fun q => spec_l5Table.f q t.flat l) tab := Ev.congr (fun q => by unfold spec_l5Table.f; rfl) h3
  refine Ev.congr (fun q => by unfold spec_l5Matches.f; rfl) (Ev.bind h4 ?_)
  refine Ev.congr (fun q => ?_) (Ev.now _)
  rw [hw, if_pos (by omega), if_pos (by omega), if_pos (by omega), rdL5_nat, if_pos (by rw [hlen.out]; have := il.out; rw [Nat.zero_mul, Nat.zero_add] at this; exact Int.ofNat_lt.2 this), rdOf_nat, v]
theorem reM_v {t : Pt} (ho : t.ok) (hL : t.flat.length ≤ 1000) (hr : ∀ x ∈ t.flat, x.f1.length ≤ 1048576) (l : List Int) (hl : l.length ≤ 1000) : reM t.flat (outsL t 0) l = some (reF inV t.flat (outsL t 0) l (t.flat.length - 1) 0 l.length) := by
  unfold reM
  rw [if_pos ⟨mOk_tree ho hL hr, hl⟩]
noncomputable def matR (L : List S49) (l : List Int) : Bool × Bool := if h : GoodRV L = true then (if l.all isR && decide ((l.length : Int) ≤ 40) then (reF inV L (outsL (Classical.choose (good_tree h)) 0) l (L.length - 1) 0 l.length, true) else (false, false)) else (false, false)
theorem matR_spec (L : List S49) (l : List Int) (h1 : L.length ≤ 1048576) (h2 : ∀ x ∈ L, x.f1.length ≤ 1048576) (hl : l.length ≤ 1048576) : Ev (fun q => spec_MatchesRe.f q L l) (matR L l) := by
  refine Ev.congr (fun q => by unfold spec_MatchesRe.f; rfl) (Ev.bind (specGoodRe_ev L h1 h2) ?_)
  unfold matR
  by_cases h : GoodRV L = true
  · rw [dif_pos h]
    obtain ⟨ho, hs, e, hL⟩ := Classical.choose_spec (good_tree h)
    generalize Classical.choose (good_tree h) = t at *
    subst e
    refine Ev.congr (fun q => by rw [if_pos h]) (Ev.bind (specAllRunes_ev l (by omega)) ?_)
    by_cases c : (l.length : Int) ≤ 40
    · cases a : l.all isR with
      | true =>
        rw [decide_eq_true (show l.length ≤ 1000 by omega), decide_eq_true c, if_pos (show (true && true) = true from rfl)]
        exact Ev.congr (fun q => by rw [if_pos (show (true && true) = true from rfl), if_neg (by omega)]) (Ev.bind (matches_ev ho hs (by omega) h2 l (by omega)) (Ev.now _))
      | false =>
        exact Ev.congr (fun q => by rw [if_neg (by simp)]) (by simpa using Ev.now (false, false))
    · rw [decide_eq_false c, Bool.and_false, if_neg (by simp)]
      by_cases d : (l.all isR && decide (l.length ≤ 1000)) = true
      · exact Ev.congr (fun q => by rw [if_pos d, if_pos (by omega)]) (Ev.now _)
      · exact Ev.congr (fun q => by rw [if_neg d]) (Ev.now _)
  · rw [dif_neg h]
    exact Ev.congr (fun q => by rw [if_neg h]) (Ev.now _)
theorem matR_impl (L : List S49) (l : List Int) (h1 : L.length ≤ 1048576) (h2 : ∀ x ∈ L, x.f1.length ≤ 1048576) (hl : l.length ≤ 1048576) : Ev (fun q => impl_MatchesRe.f q L l) (matR L l) := by
  refine Ev.congr (fun q => by unfold impl_MatchesRe.f; rfl) (Ev.bind (implGoodRe_ev L h1 h2) ?_)
  unfold matR
  by_cases h : GoodRV L = true
  · rw [dif_pos h]
    obtain ⟨ho, hs, e, hL⟩ := Classical.choose_spec (good_tree h)
    generalize Classical.choose (good_tree h) = t at *
    subst e
    rw [← areRunesV_eq]
    by_cases a : areRunesV l 40 = true
    · have c : (l.length : Int) ≤ 40 := by
        rw [areRunesV_eq, Bool.and_eq_true, decide_eq_true_iff] at a; exact a.2
      rw [if_pos a]
      have hp := partsT_ev t ho (by omega)
      have hm := reM_v ho (by omega) h2 l (by omega)
      refine Ev.congr (fun q => by rw [if_pos h, if_pos a]) (Ev.bind hp ?_)
      exact Ev.congr (fun q => by rw [hm]; rfl) (Ev.now _)
    · rw [if_neg a]
      exact Ev.congr (fun q => by rw [if_pos h, if_neg a]) (Ev.now _)
  · rw [dif_neg h]
    exact Ev.congr (fun q => by rw [if_neg h]) (Ev.now _)
theorem FnExactMatchesRe (l : List S48) (m : List Int) (hl : l.length ≤ 9223372036854775807) (hr : ∀ x ∈ l, x.f1.length ≤ 9223372036854775807) (hm : m.length ≤ 9223372036854775807) : ∃ k, laws_FnExactMatchesRe.f k l m = some true := by
  refine Ev.rounds (r := true) ?_
  unfold laws_FnExactMatchesRe.f
  by_cases hb : (m.length : Int) > 1048576
  · exact Ev.congr (fun k => by rw [if_pos hb]) (Ev.now true)
  refine Ev.congr (fun k => by rw [if_neg hb]) ?_
  obtain ⟨v, e1, e2⟩ := szReS_ev l hl hr
  refine Ev.bind e1 ?_
  by_cases h : v < 0
  · exact Ev.congr (fun k => by rw [if_pos h]) (Ev.now true)
  · have hs := e2.resolve_left h
    obtain ⟨m1, m2⟩ := small_map l hs
    have cs := matR_spec (l.map toI) m m1 m2 (by omega)
    have ci := matR_impl (l.map toI) m m1 m2 (by omega)
    generalize matR (l.map toI) m = q at cs ci
    obtain ⟨a, b⟩ := q
    have j0 : Ev (fun k => laws_FnExactMatchesRe.j0 k l m (l.map toI) m false) true := by
      refine Ev.step (fun k => by simp only [laws_FnExactMatchesRe.j0]; rw [if_neg (by simp)]) ?_
      refine Ev.bind (toReS_ev l hs) (Ev.bind (eqReS_ev (l.map toI) m1 m2) ?_)
      refine Ev.congr (fun k => by rw [if_pos rfl]) (Ev.bind (toIntS_ev m (by omega)) (Ev.bind (eqIntS_ev m m (by omega)) ?_))
      simp only [decide_true, if_true]
      exact Ev.now true
    refine Ev.congr (fun k => by rw [if_neg h]) (Ev.bind (toReS_ev l hs) (Ev.bind (toIntS_ev m (by omega)) (Ev.bind cs (Ev.bind (toReS_ev l hs) (Ev.bind (toIntS_ev m (by omega)) (Ev.bind ci ?_))))))
    exact Ev.congr (fun k => by rw [if_neg (by simp), bne_self_eq_false]) j0

end Go.Proofs.Ytlmpeaelpchokaa.Pure
