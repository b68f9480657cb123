/-
 For every input the law FnExactDerivRe returns true; no condition.
-/
import Derived.Test.YtlmpeaelpchokaaHFnExactDerivRex14
namespace Go.Proofs.Ytlmpeaelpchokaa.Pure
open Go.RowKit Go.Proofs.Ytlmpeaelpchokaa.HFnExactDerivRe Go.Proofs.YtlmpeaelpchokaaW.PrintWords Go.Proofs.YtlmpeaelpchokaaW.PrintLast
set_option linter.unusedSimpArgs false
set_option linter.unusedVariables false
theorem wr (i : Int) (h0 : -9223372036854775808 ≤ i) (h1 : i ≤ 9223372036854775807) : wrap64 i = i := by unfold wrap64; omega

theorem rd_nat (l : List Int) (j : Nat) : rd l (j : Int) = l.getD j 0 := by unfold rd; simp

theorem getD_at (l : List Int) (j : Nat) (h : j < l.length) : l.getD j 0 = l[j] := by simp [List.getD_eq_getElem?_getD, h]

theorem rd_at (l : List Int) (j : Nat) (h : j < l.length) : rd l (j : Int) = l[j] := by rw [rd_nat, getD_at l j h]

theorem drop_at (l : List Int) (j : Nat) (h : j < l.length) : l.drop j = l[j] :: l.drop (j + 1) := List.drop_eq_getElem_cons h

theorem toIntS_l (l : List Int) (hl : l.length ≤ 17592186044416) : ∀ (d j : Nat) (o : List Int), j + d = l.length → o.length = l.length → (∀ i, i < j → o.getD i 0 = l.getD i 0) → Ev (fun k => laws_toIntS.l0 k l o (j : Int)) l := by
 intro d
 induction d with
 | zero =>
  intro j o hj ho he
  refine Ev.step (f := fun _ => some l) (fun k => ?_) (Ev.now l)
  simp only [laws_toIntS.l0]
  rw [if_neg (by omega)]
  congr 1
  refine List.ext_getElem (by omega) fun i h1 h2 => ?_
  have := he i (by omega)
  rwa [getD_at o i h1, getD_at l i h2] at this
 | succ d ih =>
  intro j o hj ho he
  refine Ev.step (f := fun k => laws_toIntS.l0 k l (o.set j (l.getD j 0)) ((j + 1 : Nat) : Int)) (fun k => ?_) (ih (j + 1) _ (by omega) (by rw [List.length_set]; exact ho) fun i hi => ?_)
  ·simp only [laws_toIntS.l0]
   rw [if_pos (by omega), if_pos (by omega), if_pos (by omega), wr _ (by omega) (by omega), rd_nat]
   simp
  ·by_cases e : i = j
   ·subst e
    rw [getD_at _ _ (by rw [List.length_set]; omega)]
    simp
   ·rw [← he i (by omega)]
    simp [List.getD_eq_getElem?_getD, List.getElem?_set, Ne.symm e]

theorem toIntS_ev (l : List Int) (hl : l.length ≤ 17592186044416) : Ev (fun k => laws_toIntS.f k l) l := by
 refine Ev.congr (f := fun k => laws_toIntS.l0 k l (List.replicate l.length 0) ((0 : Nat) : Int)) (fun k => ?_) (toIntS_l l hl l.length 0 _ (by omega) (by simp) (fun i hi => by omega))
 unfold laws_toIntS.f
 rw [if_pos (by omega), if_pos (by omega)]
 simp

theorem eqIntS_l (a b : List Int) (hab : a.length = b.length) (hl : a.length ≤ 17592186044416) : ∀ (d j : Nat), j + d = a.length → a.take j = b.take j → Ev (fun k => laws_eqIntS.l0 k a b (j : Int)) (decide (a = b)) := by
 intro d
 induction d with
 | zero =>
  intro j hj ht
  refine Ev.step (f := fun _ => some (decide (a = b))) (fun k => ?_) (Ev.now _)
  simp only [laws_eqIntS.l0]
  rw [if_neg (by omega)]
  rw [List.take_of_length_le (by omega), List.take_of_length_le (by omega)] at ht
  simp [ht]
 | succ d ih =>
  intro j hj ht
  by_cases e : a[j]'(by omega) = b[j]'(by omega)
  ·refine Ev.step (f := fun k => laws_eqIntS.l0 k a b ((j + 1 : Nat) : Int)) (fun k => ?_) (ih (j + 1) (by omega) ?_)
   ·simp only [laws_eqIntS.l0]
    rw [if_pos (by omega), if_pos (by omega), if_pos (by omega), rd_at a j (by omega), rd_at b j (by omega), if_pos e, wr _ (by omega) (by omega)]
    simp
   ·rw [List.take_succ_eq_append_getElem (by omega), List.take_succ_eq_append_getElem (by omega), ht, e]
  ·refine Ev.step (f := fun _ => some (decide (a = b))) (fun k => ?_) (Ev.now _)
   simp only [laws_eqIntS.l0]
   rw [if_pos (by omega), if_pos (by omega), if_pos (by omega), rd_at a j (by omega), rd_at b j (by omega), if_neg e]
   have : ¬ a = b := fun h => e (by subst h; rfl)
   simp [this]

theorem eqIntS_ev (a b : List Int) (hl : a.length ≤ 17592186044416) : Ev (fun k => laws_eqIntS.f k a b) (decide (a = b)) := by
 by_cases h : a.length = b.length
 ·refine Ev.congr (f := fun k => laws_eqIntS.l0 k a b ((0 : Nat) : Int)) (fun k => ?_) (eqIntS_l a b h hl a.length 0 (by omega) (by simp))
  unfold laws_eqIntS.f
  rw [if_pos (by omega)]
  simp
 ·refine Ev.congr (f := fun _ => some (decide (a = b))) (fun k => ?_) (Ev.now _)
  unfold laws_eqIntS.f
  rw [if_neg (by omega)]
  have : ¬ a = b := fun e => h (by rw [e])
  simp [this]

/-- Within bounds. -/
def inB (lo hi n : Int) : Bool := decide (lo ≤ n ∧ n ≤ hi)
theorem inB_iff (lo hi n : Int) : inB lo hi n = true ↔ lo ≤ n ∧ n ≤ hi := by simp [inB]

theorem in_s (a b c : Int) : spec_l1In.f a b c = some (inB b c a) := by
 unfold spec_l1In.f inB
 by_cases h : a ≥ b
 ·rw [if_pos h]; simp [show b ≤ a from h]
 ·rw [if_neg h]; simp [show ¬ b ≤ a from h]

theorem in_i (a b c : Int) : impl_inRange.f a b c = some (inB b c a) := by
 unfold impl_inRange.f inB
 by_cases h : b ≤ a
 ·rw [if_pos h]; simp [h]
 ·rw [if_neg h]; simp [h]

def isR (a : Int) : Bool := inB 0 1114111 a && !inB 55296 57343 a
theorem gr_s (a : Int) : spec_GoodRune.f a = some (isR a) := by
 unfold spec_GoodRune.f isR
 rw [in_s, in_s]
 simp only [Option.bind_some]
 cases inB 0 1114111 a <;> simp

theorem gr_i (a : Int) : impl_GoodRune.f a = some (isR a) := by
 unfold impl_GoodRune.f isR
 rw [in_i, in_i]
 simp only [Option.bind_some]
 cases inB 0 1114111 a <;> simp

def iota (m : Int) (n : Nat) : List Int := (List.range n).map fun (i : Nat) => m + (i : Int)
theorem iota_length (m : Int) (n : Nat) : (iota m n).length = n := by simp [iota]
theorem iota_get (m : Int) (n i : Nat) (h : i < n) : (iota m n).getD i 0 = m + (i : Int) := by simp [iota, List.getD_eq_getElem?_getD, h]

theorem markIntS_l (m : Int) (n : Nat) (hm : 0 ≤ m) (hn : m + (n : Int) ≤ 4611686018427387904) : ∀ (d j : Nat) (o : List Int), j + d = n → o.length = n → (∀ i, i < j → o.getD i 0 = m + (i : Int)) → Ev (fun k => laws_markIntS.l0 k o (m + (j : Int)) (j : Int)) (m + (n : Int), iota m n) := by
 intro d
 induction d with
 | zero =>
  intro j o hj ho he
  refine Ev.step (f := fun _ => some (m + (n : Int), iota m n)) (fun k => ?_) (Ev.now _)
  simp only [laws_markIntS.l0]
  rw [if_neg (by omega)]
  have e : o = iota m n := by
   refine List.ext_getElem (by rw [iota_length]; exact ho) fun i h1 h2 => ?_
   have h3 := he i (by omega)
   rw [← iota_get m n i (by omega), getD_at o i h1, getD_at _ i h2] at h3
   exact h3
  rw [e, show j = n from by omega]
 | succ d ih =>
  intro j o hj ho he
  refine Ev.step (f := fun k => laws_markIntS.l0 k (o.set j (m + (j : Int))) (m + ((j + 1 : Nat) : Int)) ((j + 1 : Nat) : Int)) (fun k => ?_) (ih (j + 1) _ (by omega) (by rw [List.length_set]; exact ho) fun i hi => ?_)
  ·simp only [laws_markIntS.l0]
   rw [if_pos (by omega), if_pos (by omega), wr ((j : Int) + 1) (by omega) (by omega), wr (m + (j : Int) + 1) (by omega) (by omega)]
   simp [Int.add_assoc]
  ·by_cases e : i = j
   ·subst e
    rw [getD_at _ _ (by rw [List.length_set]; omega)]
    simp
   ·rw [← he i (by omega)]
    simp [List.getD_eq_getElem?_getD, List.getElem?_set, Ne.symm e]

theorem markIntS_ev (l : List Int) (m : Int) (hm : 0 ≤ m) (hn : m + (l.length : Int) ≤ 4611686018427387904) : Ev (fun k => laws_markIntS.f k l m) (m + (l.length : Int), iota m l.length) :=
 Ev.congr (fun k => by unfold laws_markIntS.f; simp) (markIntS_l m l.length hm hn l.length 0 l (by omega) rfl (fun i hi => by omega))

theorem heldIntS_l (m : Int) (n : Nat) (hm : 0 ≤ m) (hn : m + (n : Int) ≤ 4611686018427387904) : ∀ (d j : Nat), j + d = n → Ev (fun k => laws_heldIntS.l0 k (iota m n) (m + (j : Int)) (j : Int)) (m + (n : Int)) := by
 intro d
 induction d with
 | zero =>
  intro j hj
  refine Ev.step (f := fun _ => some (m + (n : Int))) (fun k => ?_) (Ev.now _)
  simp only [laws_heldIntS.l0]
  rw [if_neg (by rw [iota_length]; omega), show j = n from by omega]
 | succ d ih =>
  intro j hj
  refine Ev.step (f := fun k => laws_heldIntS.l0 k (iota m n) (m + ((j + 1 : Nat) : Int)) ((j + 1 : Nat) : Int)) (fun k => ?_) (ih (j + 1) (by omega))
  simp only [laws_heldIntS.l0]
  rw [if_pos (by rw [iota_length]; omega), if_pos (by omega), rd_nat, iota_get m n j (by omega), if_pos rfl, wr ((j : Int) + 1) (by omega) (by omega), wr (m + (j : Int) + 1) (by omega) (by omega)]
  simp [Int.add_assoc]

theorem heldIntS_ev (m : Int) (n : Nat) (hm : 0 ≤ m) (hn : m + (n : Int) ≤ 4611686018427387904) : Ev (fun k => laws_heldIntS.f k (iota m n) m) (m + (n : Int)) :=
 Ev.congr (fun k => by unfold laws_heldIntS.f; simp) (heldIntS_l m n hm hn n 0 (by omega))

theorem specAllRunes_l (l : List Int) (hl : l.length ≤ 17592186044416) : ∀ (d j : Nat), j + d = l.length → Ev (fun k => spec_l1AllRunes.l0 k l l (l.length : Int) (j : Int)) ((l.drop j).all isR && decide (l.length ≤ 1000)) := by
 intro d
 induction d with
 | zero =>
  intro j hj
  refine Ev.step (f := fun _ => some ((l.drop j).all isR && decide (l.length ≤ 1000))) (fun k => ?_) (Ev.now _)
  simp only [spec_l1AllRunes.l0]
  rw [if_neg (by omega), List.drop_of_length_le (by omega)]
  simp
  omega
 | succ d ih =>
  intro j hj
  rw [drop_at l j (by omega), List.all_cons]
  cases e : isR (l[j]'(by omega)) with
  | true =>
   refine Ev.step (f := fun k => spec_l1AllRunes.l0 k l l (l.length : Int) ((j + 1 : Nat) : Int)) (fun k => ?_) (by simpa using ih (j + 1) (by omega))
   simp only [spec_l1AllRunes.l0]
   rw [if_pos (by omega), if_pos (by omega), if_pos (by omega), rd_at l j (by omega), gr_s, wr _ (by omega) (by omega), e]
   simp
  | false =>
   refine Ev.step (f := fun _ => some false) (fun k => ?_) (by simpa using Ev.now false)
   simp only [spec_l1AllRunes.l0]
   rw [if_pos (by omega), if_pos (by omega), if_pos (by omega), rd_at l j (by omega), gr_s, e]
   simp

theorem specAllRunes_ev (l : List Int) (hl : l.length ≤ 17592186044416) : Ev (fun k => spec_l1AllRunes.f k l) (l.all isR && decide (l.length ≤ 1000)) :=
 Ev.congr (fun k => by unfold spec_l1AllRunes.f; rfl) (by simpa using specAllRunes_l l hl l.length 0 (by omega))

theorem l1All_l (lo hi : Int) (l : List Int) (hl : l.length ≤ 17592186044416) : ∀ (d j : Nat), j + d = l.length → Ev (fun k => spec_l1All.l0 k lo hi l (l.length : Int) (j : Int)) ((l.drop j).all (inB lo hi)) := by
 intro d
 induction d with
 | zero =>
  intro j hj
  refine Ev.step (f := fun _ => some ((l.drop j).all (inB lo hi))) (fun k => ?_) (Ev.now _)
  simp only [spec_l1All.l0]
  rw [if_neg (by omega), List.drop_of_length_le (by omega)]
  rfl
 | succ d ih =>
  intro j hj
  cases e : inB lo hi (l[j]'(by omega)) with
  | true =>
   refine Ev.step (f := fun k => spec_l1All.l0 k lo hi l (l.length : Int) ((j + 1 : Nat) : Int)) (fun k => ?_) ?_
   ·simp only [spec_l1All.l0]
    rw [if_pos (by omega), if_pos (by omega), if_pos (by omega), rd_at l j (by omega), in_s, wr _ (by omega) (by omega), e]
    simp
   ·rw [drop_at l j (by omega), List.all_cons, e, Bool.true_and]
    exact ih (j + 1) (by omega)
  | false =>
   refine Ev.step (f := fun _ => some ((l.drop j).all (inB lo hi))) (fun k => ?_) (Ev.now _)
   simp only [spec_l1All.l0]
   rw [if_pos (by omega), if_pos (by omega), if_pos (by omega), rd_at l j (by omega), in_s, e, drop_at l j (by omega), List.all_cons, e]
   simp

theorem l1All_ev (l : List Int) (hl : l.length ≤ 17592186044416) (lo hi : Int) : Ev (fun k => spec_l1All.f k l lo hi) (l.all (inB lo hi)) :=
 Ev.congr (fun k => by unfold spec_l1All.f; rfl) (l1All_l lo hi l hl l.length 0 (by omega))

/-- A set: pairs, each rising, each two ahead of the last one. -/
def Good : Int → List Int → Bool
 | least, a :: b :: r => decide (least ≤ a) && decide (a ≤ b) && decide (b ≤ 1114111) && Good (b + 2) r
 | _, [] => true
 | _, [_] => false

/-- A set, with at most twelve spans. -/
def GoodS (l : List Int) : Bool := Good 0 l && decide (l.length ≤ 24)

theorem good_even (l : List Int) : ∀ a, Good a l = true → l.length % 2 = 0 := by
 match l with
 | [] => intro a _; rfl
 | [_] => intro a h; simp [Good] at h
 | x :: y :: r =>
  intro a h
  simp only [Good, Bool.and_eq_true] at h
  have := good_even r _ h.2
  simp only [List.length_cons]
  omega
termination_by l.length

theorem good_all (l : List Int) : ∀ a, 0 ≤ a → Good a l = true → ∀ x ∈ l, 0 ≤ x ∧ x ≤ 1114111 := by
 match l with
 | [] => intro a _ _ x hx; cases hx
 | [_] => intro a _ h; simp [Good] at h
 | y :: z :: r =>
  intro a ha h x hx
  simp [Good] at h
  simp only [List.mem_cons] at hx
  rcases hx with rfl | rfl | hx
  ·omega
  ·omega
  ·exact good_all r (z + 2) (by omega) h.2 x hx
termination_by l.length

def lst (l : List Int) (j : Nat) : Int := if j = 0 then 0 else l.getD (j - 1) 0 + 2

theorem specSet_l (l : List Int) (hl : l.length ≤ 17592186044416) (hr : ∀ x ∈ l, 0 ≤ x ∧ x ≤ 1114111) : ∀ (d j : Nat), j + 2 * d = l.length → Ev (fun k => spec_GoodSet.l0 k l (j : Int)) (Good (lst l j) (l.drop j)) := by
 intro d
 induction d with
 | zero =>
  intro j hj
  refine Ev.step (f := fun _ => some (Good (lst l j) (l.drop j))) (fun k => ?_) (Ev.now _)
  simp only [spec_GoodSet.l0]
  rw [if_neg (by omega), List.drop_of_length_le (by omega)]
  rfl
 | succ d ih =>
  intro j hj
  have ha : 0 ≤ l[j]'(by omega) ∧ l[j]'(by omega) ≤ 1114111 := hr _ (List.getElem_mem _)
  have hb : 0 ≤ l[j + 1]'(by omega) ∧ l[j + 1]'(by omega) ≤ 1114111 := hr _ (List.getElem_mem _)
  have e1 : wrap64 ((j : Int) + 1) = ((j + 1 : Nat) : Int) := by rw [wr _ (by omega) (by omega)]; omega
  have e2 : wrap64 ((j : Int) + 2) = ((j + 2 : Nat) : Int) := by rw [wr _ (by omega) (by omega)]; omega
  have hd : l.drop j = l[j]'(by omega) :: l[j + 1]'(by omega) :: l.drop (j + 2) := by rw [drop_at l j (by omega), drop_at l (j + 1) (by omega)]
  have hn : lst l (j + 2) = l[j + 1]'(by omega) + 2 := by
   unfold lst
   rw [if_neg (by omega), show j + 2 - 1 = j + 1 from by omega, getD_at l (j + 1) (by omega)]
  have ih' := ih (j + 2) (by omega)
  rw [hn] at ih'
  have hg : Good (lst l j) (l.drop j) = (decide (lst l j ≤ l[j]'(by omega)) && decide (l[j]'(by omega) ≤ l[j + 1]'(by omega)) && decide (l[j + 1]'(by omega) ≤ 1114111) && Good (l[j + 1]'(by omega) + 2) (l.drop (j + 2))) := by
   rw [hd, Good]
  rw [hg]
  by_cases h1 : l[j]'(by omega) > l[j + 1]'(by omega)
  ·refine Ev.step (f := fun _ => some false) (fun k => ?_) ?_
   ·simp only [spec_GoodSet.l0]
    rw [e1, if_pos (by omega), if_pos (by omega), if_pos (by omega), if_pos (by omega), rd_at l j (by omega), rd_at l (j + 1) (by omega), if_pos h1]
   ·rw [show decide (l[j]'(by omega) ≤ l[j + 1]'(by omega)) = false from decide_eq_false (by omega)]
    simpa using Ev.now false
  ·rw [show decide (l[j]'(by omega) ≤ l[j + 1]'(by omega)) = true from decide_eq_true (by omega), show decide (l[j + 1]'(by omega) ≤ 1114111) = true from decide_eq_true (by omega)]
   by_cases h0 : j = 0
   ·subst h0
    rw [show decide (lst l 0 ≤ l[0]'(by omega)) = true from decide_eq_true (by unfold lst; simp; omega)]
    refine Ev.step (f := fun k => spec_GoodSet.l0 k l ((0 + 2 : Nat) : Int)) (fun k => ?_) (by simpa using ih')
    simp only [spec_GoodSet.l0]
    rw [e1, if_pos (by omega), if_pos (by omega), if_pos (by omega), if_pos (by omega), rd_at l 0 (by omega), rd_at l (0 + 1) (by omega), if_neg h1, if_neg (by omega), e2]
   ·have e3 : wrap64 ((j : Int) - 1) = ((j - 1 : Nat) : Int) := by rw [wr _ (by omega) (by omega)]; omega
    have hp : 0 ≤ l[j - 1]'(by omega) ∧ l[j - 1]'(by omega) ≤ 1114111 := hr _ (List.getElem_mem _)
    have hs : lst l j = l[j - 1]'(by omega) + 2 := by unfold lst; rw [if_neg h0, getD_at l (j - 1) (by omega)]
    rw [hs]
    by_cases h2 : l[j]'(by omega) < l[j - 1]'(by omega) + 2
    ·refine Ev.step (f := fun _ => some false) (fun k => ?_) ?_
     ·simp only [spec_GoodSet.l0]
      rw [e1, if_pos (by omega), if_pos (by omega), if_pos (by omega), if_pos (by omega), rd_at l j (by omega), rd_at l (j + 1) (by omega), if_neg h1, if_pos (by omega), e3, if_pos (by omega), if_pos (by omega), rd_at l (j - 1) (by omega), wr (l[j - 1]'(by omega) + 2) (by omega) (by omega), if_pos h2]
     ·rw [show decide (l[j - 1]'(by omega) + 2 ≤ l[j]'(by omega)) = false from decide_eq_false (by omega)]
      simpa using Ev.now false
    ·refine Ev.step (f := fun k => spec_GoodSet.l0 k l ((j + 2 : Nat) : Int)) (fun k => ?_) ?_
     ·simp only [spec_GoodSet.l0]
      rw [e1, if_pos (by omega), if_pos (by omega), if_pos (by omega), if_pos (by omega), rd_at l j (by omega), rd_at l (j + 1) (by omega), if_neg h1, if_pos (by omega), e3, if_pos (by omega), if_pos (by omega), rd_at l (j - 1) (by omega), wr (l[j - 1]'(by omega) + 2) (by omega) (by omega), if_neg h2, e2]
     ·rw [show decide (l[j - 1]'(by omega) + 2 ≤ l[j]'(by omega)) = true from decide_eq_true (by omega)]
      simpa using ih'

theorem goodS_bad (l : List Int) (h : ¬ (l.length % 2 = 0 ∧ l.length ≤ 24 ∧ l.all (inB 0 1114111) = true)) : GoodS l = false := by
 cases hg : GoodS l with
 | false => rfl
 | true =>
  unfold GoodS at hg
  rw [Bool.and_eq_true, decide_eq_true_eq] at hg
  refine absurd ⟨good_even l 0 hg.1, hg.2, ?_⟩ h
  rw [List.all_eq_true]
  intro x hx
  exact (inB_iff _ _ _).2 (good_all l 0 (by omega) hg.1 x hx)

theorem specSet_ev (l : List Int) (hl : l.length ≤ 17592186044416) : Ev (fun k => spec_GoodSet.f k l) (GoodS l) := by
 have jt : Ev (fun k => spec_GoodSet.j0 k l true) false := Ev.step (f := fun _ => some false) (fun k => by simp [spec_GoodSet.j0]) (Ev.now _)
 unfold spec_GoodSet.f
 by_cases h1 : l.length % 2 = 1
 ·rw [goodS_bad l (by omega)]
  exact Ev.congr (fun k => by rw [if_pos (by omega)]) jt
 ·by_cases h2 : l.length ≤ 24
  ·refine Ev.congr (f := fun k => (spec_l1All.f k l 0 1114111).bind fun t => spec_GoodSet.j0 k l (!t)) (fun k => by rw [if_neg (by omega), if_neg (by omega)]) ?_
   refine Ev.bind (l1All_ev l hl 0 1114111) ?_
   cases ha : l.all (inB 0 1114111) with
   | false =>
    rw [goodS_bad l (by rw [ha]; simp)]
    exact jt
   | true =>
    refine Ev.step (f := fun k => spec_GoodSet.l0 k l ((0 : Nat) : Int)) (fun k => by simp [spec_GoodSet.j0]) ?_
    have := specSet_l l hl (fun x hx => (inB_iff _ _ _).1 (List.all_eq_true.1 ha x hx)) (l.length / 2) 0 (by omega)
    have e : GoodS l = Good (lst l 0) (l.drop 0) := by unfold GoodS lst; simp [h2]
    rw [e]
    exact this
  ·rw [goodS_bad l (by omega)]
   exact Ev.congr (fun k => by rw [if_neg (by omega), if_pos (by omega)]) jt

/-- As the program asks it: number by number. -/
def GA : Bool → Int → List Int → Bool
 | _, _, [] => true
 | p, least, n :: r => inB least 1114111 n && GA (!p) (if p = true then n else n + 2) r

theorem ga_good (l : List Int) : ∀ a, l.length % 2 = 0 → GA true a l = Good a l := by
 match l with
 | [] => intro a _; rfl
 | [_] => intro a h; simp at h
 | x :: y :: r =>
  intro a h
  have ih := ga_good r (y + 2) (by simp only [List.length_cons] at h; omega)
  simp only [GA, Good, Bool.not_true, if_true, Bool.not_false, Bool.false_eq_true, if_false, ih]
  rw [Bool.eq_iff_iff]
  simp only [Bool.and_eq_true, inB_iff, decide_eq_true_eq]
  refine ⟨fun ⟨⟨h1, h2⟩, h3, h4⟩ => ⟨⟨⟨h1, h3.1⟩, h3.2⟩, h4⟩, fun ⟨⟨⟨h1, h2⟩, h3⟩, h4⟩ => ⟨⟨h1, by omega⟩, ⟨h2, h3⟩, h4⟩⟩
termination_by l.length

def lsi (l : List Int) (j : Nat) : Int := if j = 0 then 0 else if j % 2 = 0 then l.getD (j - 1) 0 + 2 else l.getD (j - 1) 0

theorem implSet_l (l : List Int) (hl : l.length ≤ 17592186044416) : ∀ (d j : Nat), j + d = l.length → (j ≠ 0 → l.getD (j - 1) 0 ≤ 1114111) → (j ≠ 0 → 0 ≤ l.getD (j - 1) 0) →
  Ev (fun k => impl_GoodSet.l0 k l l (l.length : Int) (j : Int)) (GA (j % 2 == 0) (lsi l j) (l.drop j) && decide (l.length % 2 = 0 ∧ l.length ≤ 24)) := by
 intro d
 induction d with
 | zero =>
  intro j hj _ _
  refine Ev.step (f := fun _ => some (GA (j % 2 == 0) (lsi l j) (l.drop j) && decide (l.length % 2 = 0 ∧ l.length ≤ 24))) (fun k => ?_) (Ev.now _)
  simp only [impl_GoodSet.l0]
  rw [if_neg (by omega), List.drop_of_length_le (by omega)]
  simp only [GA, Bool.true_and]
  by_cases h : l.length % 2 = 0
  ·rw [if_pos (by omega)]
   simp [h]
   omega
  ·rw [if_neg (by omega)]
   simp [h]
 | succ d ih =>
  intro j hj hp0 hp1
  have e1 : wrap64 ((j : Int) + 1) = ((j + 1 : Nat) : Int) := by rw [wr _ (by omega) (by omega)]; omega
  rw [drop_at l j (by omega), GA]
  have fin : ∀ (g : Nat → Option Bool), (∀ k, g (k + 1) = (impl_inRange.f (l[j]'(by omega)) (lsi l j) 1114111).bind fun t => if t = true then impl_GoodSet.l0 k l l (l.length : Int) (wrap64 ((j : Int) + 1)) else some false) →
    Ev g ((inB (lsi l j) 1114111 (l[j]'(by omega)) && GA (!(j % 2 == 0)) (if (j % 2 == 0) = true then l[j]'(by omega) else l[j]'(by omega) + 2) (l.drop (j + 1))) && decide (l.length % 2 = 0 ∧ l.length ≤ 24)) := by
   intro g hg
   cases hi : inB (lsi l j) 1114111 (l[j]'(by omega)) with
   | false =>
    refine Ev.step (f := fun _ => some false) (fun k => ?_) (by simpa using Ev.now false)
    rw [hg, in_i, hi]
    simp
   | true =>
    have hb := (inB_iff _ _ _).1 hi
    have h0 : 0 ≤ lsi l j := by
     unfold lsi
     by_cases z : j = 0
     ·rw [if_pos z]; omega
     ·have := hp1 z
      rw [if_neg z]
      by_cases z2 : j % 2 = 0
      ·rw [if_pos z2]; omega
      ·rw [if_neg z2]; omega
    refine Ev.step (f := fun k => impl_GoodSet.l0 k l l (l.length : Int) ((j + 1 : Nat) : Int)) (fun k => ?_) ?_
    ·rw [hg, in_i, hi, e1]
     simp
    ·have hq : l.getD (j + 1 - 1) 0 = l[j]'(by omega) := by rw [show j + 1 - 1 = j from by omega, getD_at l j (by omega)]
     have := ih (j + 1) (by omega) (fun _ => by rw [hq]; omega) (fun _ => by rw [hq]; omega)
     have es : lsi l (j + 1) = if (j % 2 == 0) = true then l[j]'(by omega) else l[j]'(by omega) + 2 := by
      unfold lsi
      rw [if_neg (by omega), hq]
      by_cases z : j % 2 = 0
      ·rw [if_neg (by omega), if_pos (by simpa using z)]
      ·rw [if_pos (by omega), if_neg (by simpa using z)]
     have ep : ((j + 1) % 2 == 0) = !(j % 2 == 0) := by
      by_cases z : j % 2 = 0
      ·have : ¬ (j + 1) % 2 = 0 := by omega
       simp [z, this]
      ·have : (j + 1) % 2 = 0 := by omega
       simp [z, this]
     rw [es, ep] at this
     rw [Bool.true_and]
     exact this
  by_cases z : j = 0
  ·subst z
   refine Ev.step (f := fun k => impl_GoodSet.j1 k l ((0 : Nat) : Int) (l[0]'(by omega)) 0 l (l.length : Int) ((0 : Nat) : Int) false) (fun k => ?_) (fin _ fun k => ?_)
   ·simp only [impl_GoodSet.l0]
    rw [if_pos (by omega), if_pos (by omega), if_pos (by omega), if_neg (by omega), rd_at l 0 (by omega)]
   ·simp only [impl_GoodSet.j1]
    rw [if_neg (by simp), if_neg (by omega)]
    rfl
  ·have e3 : wrap64 ((j : Int) - 1) = ((j - 1 : Nat) : Int) := by rw [wr _ (by omega) (by omega)]; omega
   have q0 := hp0 z
   have q1 := hp1 z
   have et : ((Int.tmod (j : Int) 2) == 0) = (j % 2 == 0) := by
    rw [show (2 : Int) = ((2 : Nat) : Int) from rfl, ← Int.ofNat_tmod, Bool.eq_iff_iff]
    simp only [beq_iff_eq]
    omega
   refine Ev.step (f := fun k => impl_GoodSet.j1 k l (j : Int) (l[j]'(by omega)) 0 l (l.length : Int) (j : Int) (j % 2 == 0)) (fun k => ?_) (fin _ fun k => ?_)
   ·simp only [impl_GoodSet.l0]
    rw [if_pos (by omega), if_pos (by omega), if_pos (by omega), if_pos (by omega), rd_at l j (by omega), et]
   ·simp only [impl_GoodSet.j1]
    by_cases z2 : j % 2 = 0
    ·rw [if_pos (by simpa using z2), e3, if_pos (by omega), if_pos (by omega), rd_nat, wr (l.getD (j - 1) 0 + 2) (by omega) (by omega)]
     unfold lsi
     rw [if_neg z, if_pos z2]
    ·rw [if_neg (by simpa using z2), if_pos (by omega), e3, if_pos (by omega), if_pos (by omega), rd_nat]
     unfold lsi
     rw [if_neg z, if_neg z2]

theorem implSet_ev (l : List Int) (hl : l.length ≤ 17592186044416) : Ev (fun k => impl_GoodSet.f k l) (GoodS l) := by
 have h := implSet_l l hl l.length 0 (by omega) (fun h => absurd rfl h) (fun h => absurd rfl h)
 have e : GoodS l = (GA (0 % 2 == 0) (lsi l 0) (l.drop 0) && decide (l.length % 2 = 0 ∧ l.length ≤ 24)) := by
  by_cases hev : l.length % 2 = 0
  ·show (Good 0 l && decide (l.length ≤ 24)) = (GA true 0 l && _)
   rw [ga_good l 0 hev]
   simp [hev]
  ·rw [goodS_bad l (by omega)]
   simp [hev]
 rw [e]
 exact Ev.congr (fun k => by unfold impl_GoodSet.f; rfl) h

theorem goodS_facts (l : List Int) (h : GoodS l = true) : l.length ≤ 24 ∧ l.length % 2 = 0 ∧ ∀ x ∈ l, 0 ≤ x ∧ x ≤ 1114111 := by
 unfold GoodS at h
 rw [Bool.and_eq_true, decide_eq_true_eq] at h
 exact ⟨h.2, good_even l 0 h.1, good_all l 0 (by omega) h.1⟩

theorem rdS_L (l : List S48) (j : Nat) (h : j < l.length) : rd_T48 l (j : Int) = l[j] := by unfold rd_T48; simp [List.getD_eq_getElem?_getD, h]
theorem rdS_I (l : List S49) (j : Nat) (h : j < l.length) : rd_T49 l (j : Int) = l[j] := by unfold rd_T49; simp [List.getD_eq_getElem?_getD, h]
def toI (x : S48) : S49 := ⟨x.f0, x.f1⟩
/-- A pattern within bounds. -/
def SmallRe (l : List S48) : Prop := l.length ≤ 1048576 ∧ ∀ x ∈ l, x.f1.length ≤ 1048576
theorem szIntS_v (l : List Int) (b : Int) (h0 : 0 ≤ b) (h1 : b ≤ 1048576) (hl : l.length ≤ 9223372036854775807) : laws_szIntS.f l b = some (if b - (l.length : Int) < 0 then -1 else b - (l.length : Int)) := by
 unfold laws_szIntS.f
 rw [wr _ (by omega) (by omega)]
 split <;> rfl
theorem szRe_v (op : Int) (l : List Int) (b : Int) (h0 : 0 ≤ b) (h1 : b ≤ 1048576) (hl : l.length ≤ 9223372036854775807) : laws_szRe.f op l b = some (if b - (l.length : Int) < 0 then -1 else b - (l.length : Int)) := by
 unfold laws_szRe.f
 rw [szIntS_v l b h0 h1 hl, Option.bind_some]
 by_cases c : b - (l.length : Int) < 0
 ·rw [if_pos c, if_pos (by omega)]
 ·rw [if_neg c, if_neg c]
def szNodes : Int → List S48 → Int
 | b, [] => b
 | b, x :: t => if b - (x.f1.length : Int) < 0 then -1 else szNodes (b - (x.f1.length : Int)) t
theorem szNodes_ok (l : List S48) : ∀ b, 0 ≤ b → szNodes b l ≤ b ∧ (szNodes b l < 0 ∨ (∀ x ∈ l, (x.f1.length : Int) ≤ b)) := by
 induction l with
 | nil => intro b _; exact ⟨Int.le_refl _, Or.inr (fun r h => by cases h)⟩
 | cons x t ih =>
  intro b hb
  rw [szNodes]
  by_cases c : b - (x.f1.length : Int) < 0
  ·rw [if_pos c]; exact ⟨by omega, Or.inl (by omega)⟩
  ·rw [if_neg c]
   obtain ⟨h1, h2⟩ := ih (b - (x.f1.length : Int)) (by omega)
   refine ⟨by omega, h2.imp id fun h r hr => ?_⟩
   rcases List.mem_cons.1 hr with rfl | hr
   ·omega
   ·have := h r hr; omega
theorem szReS_l (l : List S48) (hl : l.length ≤ 1048576) (hr : ∀ x ∈ l, x.f1.length ≤ 9223372036854775807) : ∀ (d j : Nat) (b : Int), j + d = l.length → 0 ≤ b → b ≤ 1048576 → Ev (fun k => laws_szReS.l0 k l b (j : Int)) (szNodes b (l.drop j)) := by
 intro d
 induction d with
 | zero =>
  intro j b hj h0 h1
  refine Ev.step (f := fun _ => some b) (fun k => ?_) (by rw [List.drop_of_length_le (by omega)]; exact Ev.now _)
  simp only [laws_szReS.l0]
  rw [if_neg (by omega)]
 | succ d ih =>
  intro j b hj h0 h1
  have hj' : j < l.length := by omega
  rw [List.drop_eq_getElem_cons hj', szNodes]
  refine Ev.step (f := fun k => (laws_szRe.f (l[j]'hj').f0 (l[j]'hj').f1 b).bind fun t => if t < 0 then some (-1) else laws_szReS.l0 k l t ((j + 1 : Nat) : Int)) (fun k => ?_) ?_
  ·simp only [laws_szReS.l0]
   rw [if_pos (by omega), if_pos (by omega), rdS_L l j hj', wr ((j : Int) + 1) (by omega) (by omega)]
   rfl
  ·rw [szRe_v _ _ _ h0 h1 (hr _ (List.getElem_mem hj'))]
   refine Ev.bind (Ev.now _) ?_
   by_cases c : b - ((l[j]'hj').f1.length : Int) < 0
   ·rw [if_pos c, if_pos c]
    exact Ev.congr (fun k => by rw [if_pos (by omega)]) (Ev.now _)
   ·rw [if_neg c, if_neg c]
    exact Ev.congr (fun k => by rw [if_neg c]) (ih (j + 1) _ (by omega) (by omega) (by omega))
theorem szReS_ev (l : List S48) (hl : l.length ≤ 9223372036854775807) (hr : ∀ x ∈ l, x.f1.length ≤ 9223372036854775807) : ∃ v, Ev (fun k => laws_szReS.f k l 1048576) v ∧ (v < 0 ∨ SmallRe l) := by
 unfold laws_szReS.f
 rw [wr (1048576 - (l.length : Int)) (by omega) (by omega)]
 by_cases c : 1048576 - (l.length : Int) < 0
 ·exact ⟨-1, Ev.congr (fun k => by rw [if_pos c]) (Ev.now _), Or.inl (by omega)⟩
 ·obtain ⟨g1, g2⟩ := szNodes_ok l (1048576 - (l.length : Int)) (by omega)
  exact ⟨szNodes (1048576 - (l.length : Int)) l, Ev.congr (fun k => by rw [if_neg c]; rfl) (szReS_l l (by omega) hr l.length 0 _ (by omega) (by omega) (by omega)), g2.imp id fun h => ⟨by omega, fun r hr => by have := h r hr; omega⟩⟩

theorem toReS_l (l : List S48) (h : SmallRe l) : ∀ (d j : Nat) (o : List S49), j + d = l.length → o.length = l.length → (∀ i (hi : i < l.length), i < j → o[i]? = some (toI l[i])) → Ev (fun k => laws_toReS.l0 k l o (j : Int)) (l.map toI) := by
 obtain ⟨h1, h2⟩ := h
 intro d
 induction d with
 | zero =>
  intro j o hj ho he
  refine Ev.step (f := fun _ => some (l.map toI)) (fun k => ?_) (Ev.now _)
  simp only [laws_toReS.l0]
  rw [if_neg (by omega)]
  congr 1
  refine List.ext_getElem (by rw [List.length_map]; omega) fun i g1 g2 => ?_
  rw [List.length_map] at g2
  have := he i g2 (by omega)
  rw [List.getElem?_eq_getElem g1] at this
  rw [Option.some.inj this, List.getElem_map]
 | succ d ih =>
  intro j o hj ho he
  have hj' : j < l.length := by omega
  have e1 : wrap64 ((j : Int) + 1) = ((j + 1 : Nat) : Int) := by rw [wr _ (by omega) (by omega)]; omega
  have tr : Ev (fun k => laws_toRe.f k (l[j]'hj').f0 (l[j]'hj').f1) ((l[j]'hj').f0, (l[j]'hj').f1) := by
   unfold laws_toRe.f
   exact Ev.bind (toIntS_ev _ (by have := h2 _ (List.getElem_mem hj'); omega)) (Ev.now _)
  refine Ev.step (f := fun k => (laws_toRe.f k (l[j]'hj').f0 (l[j]'hj').f1).bind fun t => laws_toReS.l0 k l (o.set j ⟨t.1, t.2⟩) ((j + 1 : Nat) : Int)) (fun k => ?_) (Ev.bind tr (ih (j + 1) (o.set j (toI (l[j]'hj'))) (by omega) (by rw [List.length_set]; exact ho) fun i hi hlt => ?_))
  ·simp only [laws_toReS.l0]
   rw [if_pos (by omega), if_pos (by omega), rdS_L l j hj', e1]
   congr 1
   funext t
   rw [if_pos (by omega)]
   simp
  ·by_cases e : i = j
   ·subst e
    rw [List.getElem?_set_self (by omega)]
   ·rw [List.getElem?_set_ne (fun h => e h.symm)]
    exact he i hi (by omega)
theorem toReS_ev (l : List S48) (h : SmallRe l) : Ev (fun k => laws_toReS.f k l) (l.map toI) := by
 have h1 := h.1
 refine Ev.congr (f := fun k => laws_toReS.l0 k l (List.replicate l.length z49) ((0 : Nat) : Int)) (fun k => ?_) (toReS_l l h l.length 0 _ (by omega) (by simp) (fun i hi h => absurd h (by omega)))
 unfold laws_toReS.f
 rw [if_pos (by omega), if_pos (by omega)]
 simp
theorem eqReS_l (l : List S49) (h1 : l.length ≤ 1048576) (h2 : ∀ x ∈ l, x.f1.length ≤ 1048576) : ∀ (d j : Nat), j + d = l.length → Ev (fun k => laws_eqReS.l0 k l l (j : Int)) true := by
 intro d
 induction d with
 | zero =>
  intro j hj
  refine Ev.step (f := fun _ => some true) (fun k => ?_) (Ev.now _)
  simp only [laws_eqReS.l0]
  rw [if_neg (by omega)]
 | succ d ih =>
  intro j hj
  have hj' : j < l.length := by omega
  have er : Ev (fun k => laws_eqRe.f k (l[j]'hj').f0 (l[j]'hj').f1 (l[j]'hj').f0 (l[j]'hj').f1) true := by
   unfold laws_eqRe.f
   refine Ev.congr (fun k => by rw [if_pos rfl]) (Ev.bind (eqIntS_ev (l[j]'hj').f1 (l[j]'hj').f1 (by have := h2 _ (List.getElem_mem hj'); omega)) ?_)
   exact Ev.congr (fun k => by rw [if_pos (by simp)]) (Ev.now _)
  refine Ev.step (f := fun k => (laws_eqRe.f k (l[j]'hj').f0 (l[j]'hj').f1 (l[j]'hj').f0 (l[j]'hj').f1).bind fun t => if t = true then laws_eqReS.l0 k l l ((j + 1 : Nat) : Int) else some false) (fun k => ?_) (Ev.bind er (Ev.congr (fun k => by rw [if_pos rfl]) (ih (j + 1) (by omega))))
  simp only [laws_eqReS.l0]
  rw [if_pos (by omega), if_pos (by omega), if_pos (by omega), rdS_I l j hj', wr ((j : Int) + 1) (by omega) (by omega)]
  rfl
theorem eqReS_ev (l : List S49) (h1 : l.length ≤ 1048576) (h2 : ∀ x ∈ l, x.f1.length ≤ 1048576) : Ev (fun k => laws_eqReS.f k l l) true :=
 Ev.congr (fun k => by unfold laws_eqReS.f; rw [if_pos rfl]; rfl) (eqReS_l l h1 h2 l.length 0 (by omega))
theorem small_map (l : List S48) (h : SmallRe l) : (l.map toI).length ≤ 1048576 ∧ ∀ x ∈ l.map toI, x.f1.length ≤ 1048576 := by
 refine ⟨by rw [List.length_map]; exact h.1, fun x hx => ?_⟩
 obtain ⟨y, hy, rfl⟩ := List.mem_map.1 hx
 exact h.2 y hy
/-- How many parts an op has. -/
def arV (a : Int) : Int := if a = 1 then 0 else if a = 2 then 0 else if a = 6 then 1 else if a = 7 then 1 else if a = 3 then 2 else if a = 4 then 2 else if a = 5 then 2 else -1
theorem arV_cases (a : Int) : arV a = 0 ∨ arV a = 1 ∨ arV a = 2 ∨ arV a = -1 := by
 unfold arV
 repeat' split
 all_goals simp
theorem specAr_ev (a : Int) : Ev (fun k => spec_l5Arity.f k a) (arV a) := by
 have j0t : Ev (fun k => spec_l5Arity.j0 k a true) 0 := Ev.step (f := fun _ => some 0) (fun k => by simp [spec_l5Arity.j0]) (Ev.now _)
 have j1t : Ev (fun k => spec_l5Arity.j1 k a true) 1 := Ev.step (f := fun _ => some 1) (fun k => by simp [spec_l5Arity.j1]) (Ev.now _)
 unfold spec_l5Arity.f arV
 by_cases h1 : a = 1
 ·rw [if_pos h1]; exact Ev.congr (fun k => by rw [if_pos h1, show (a == 1) = true from by simpa using h1]) j0t
 rw [if_neg h1]
 by_cases h2 : a = 2
 ·rw [if_pos h2]; exact Ev.congr (fun k => by rw [if_neg h1, show (a == 2) = true from by simpa using h2]) j0t
 rw [if_neg h2]
 refine Ev.congr (f := fun k => spec_l5Arity.j0 k a false) (fun k => by rw [if_neg h1, show (a == 2) = false from by simpa using h2]) ?_
 by_cases h6 : a = 6
 ·rw [if_pos h6]
  exact Ev.step (fun k => by simp only [spec_l5Arity.j0]; rw [if_neg (by simp), if_pos h6, show (a == 6) = true from by simpa using h6]) j1t
 rw [if_neg h6]
 by_cases h7 : a = 7
 ·rw [if_pos h7]
  exact Ev.step (fun k => by simp only [spec_l5Arity.j0]; rw [if_neg (by simp), if_neg h6, show (a == 7) = true from by simpa using h7]) j1t
 rw [if_neg h7]
 refine Ev.step (f := fun k => spec_l5Arity.j1 k a false) (fun k => by simp only [spec_l5Arity.j0]; rw [if_neg (by simp), if_neg h6, show (a == 7) = false from by simpa using h7]) ?_
 refine Ev.step (f := fun _ => some (if a = 3 then 2 else if a = 4 then 2 else if a = 5 then 2 else -1)) (fun k => ?_) (Ev.now _)
 simp only [spec_l5Arity.j1]
 rw [if_neg (by simp)]
 split
 ·rfl
 ·split
  ·rfl
  ·split <;> rfl
theorem implAr_ev (a : Int) : Ev (fun k => impl_partsOf.f k a) (arV a) := by
 have j0t : Ev (fun k => impl_partsOf.j0 k a true) 0 := Ev.step (f := fun _ => some 0) (fun k => by simp [impl_partsOf.j0]) (Ev.now _)
 have j1t : Ev (fun k => impl_partsOf.j1 k a true) 1 := Ev.step (f := fun _ => some 1) (fun k => by simp [impl_partsOf.j1]) (Ev.now _)
 unfold impl_partsOf.f arV
 by_cases h1 : a = 1
 ·rw [if_pos h1]; exact Ev.congr (fun k => by rw [if_pos h1, show (a == 1) = true from by simpa using h1]) j0t
 rw [if_neg h1]
 by_cases h2 : a = 2
 ·rw [if_pos h2]; exact Ev.congr (fun k => by rw [if_neg h1, show (a == 2) = true from by simpa using h2]) j0t
 rw [if_neg h2]
 refine Ev.congr (f := fun k => impl_partsOf.j0 k a false) (fun k => by rw [if_neg h1, show (a == 2) = false from by simpa using h2]) ?_
 by_cases h6 : a = 6
 ·rw [if_pos h6]
  exact Ev.step (fun k => by simp only [impl_partsOf.j0]; rw [if_neg (by simp), if_pos h6, show (a == 6) = true from by simpa using h6]) j1t
 rw [if_neg h6]
 by_cases h7 : a = 7
 ·rw [if_pos h7]
  exact Ev.step (fun k => by simp only [impl_partsOf.j0]; rw [if_neg (by simp), if_neg h6, show (a == 7) = true from by simpa using h7]) j1t
 rw [if_neg h7]
 refine Ev.step (f := fun k => impl_partsOf.j1 k a false) (fun k => by simp only [impl_partsOf.j0]; rw [if_neg (by simp), if_neg h6, show (a == 7) = false from by simpa using h7]) ?_
 refine Ev.step (f := fun _ => some (if a = 3 then 2 else if a = 4 then 2 else if a = 5 then 2 else -1)) (fun k => ?_) (Ev.now _)
 simp only [impl_partsOf.j1]
 rw [if_neg (by simp)]
 split
 ·rfl
 ·split
  ·rfl
  ·split <;> rfl

/-- A node's set is as it must be. -/
def setOk (x : S49) : Bool := GoodS x.f1 && (x.f1.all isR && (decide (x.f0 = 2) || decide (x.f1.length = 0)))
/-- The nodes stand as they must. -/
def stackV : Int → List S49 → Bool
 | c, [] => c == 1
 | c, x :: r => decide (0 ≤ arV x.f0) && (decide (arV x.f0 ≤ c) && stackV (c + 1 - arV x.f0) r)
def GoodRV (l : List S49) : Bool := decide (l.length ≤ 40) && (l.all setOk && stackV 0 l)

theorem node_ev (x : S49) (hl : x.f1.length ≤ 1048576) : Ev (fun k => spec_l5Node.f k x.f0 x.f1) (decide (0 ≤ arV x.f0) && setOk x) := by
 have q : ∀ g : Nat → Option Bool, (∀ k, g k = (spec_GoodSet.f k x.f1).bind fun t146 => if t146 = true then (spec_l1AllRunes.f k x.f1).bind fun t147 => some t147 else some false) → Ev g (GoodS x.f1 && x.f1.all isR) := by
  intro g hg
  refine Ev.congr hg (Ev.bind (specSet_ev x.f1 (by omega)) ?_)
  cases hs : GoodS x.f1 with
  | false => exact Ev.congr (fun k => by rw [if_neg (by simp)]) (by simpa using Ev.now false)
  | true =>
   have h24 := (goodS_facts x.f1 hs).1
   refine Ev.congr (fun k => by rw [if_pos rfl]) (Ev.bind (specAllRunes_ev x.f1 (by omega)) ?_)
   rw [show decide (x.f1.length ≤ 1000) = true from decide_eq_true (by omega), Bool.and_true, Bool.true_and]
   exact Ev.now _
 unfold spec_l5Node.f setOk
 refine Ev.bind (specAr_ev x.f0) ?_
 by_cases h0 : arV x.f0 < 0
 ·rw [show decide (0 ≤ arV x.f0) = false from decide_eq_false (by omega), Bool.false_and]
  exact Ev.congr (fun k => by rw [if_pos h0]) (Ev.now _)
 ·rw [show decide (0 ≤ arV x.f0) = true from decide_eq_true (by omega), Bool.true_and]
  by_cases h2 : x.f0 = 2
  ·rw [decide_eq_true h2, Bool.true_or, Bool.and_true]
   exact q _ (fun k => by rw [if_neg h0, if_pos h2])
  ·rw [decide_eq_false h2, Bool.false_or]
   by_cases h3 : x.f1.length = 0
   ·rw [decide_eq_true h3, Bool.and_true]
    exact q _ (fun k => by rw [if_neg h0, if_neg h2, if_neg (by omega)])
   ·rw [decide_eq_false h3, Bool.and_false, Bool.and_false]
    exact Ev.congr (fun k => by rw [if_neg h0, if_neg h2, if_pos (by omega)]) (Ev.now _)
theorem specGoodRe_l (l : List S49) (hl : l.length ≤ 1000) (hr : ∀ x ∈ l, x.f1.length ≤ 1048576) : ∀ (d j : Nat) (c : Int), j + d = l.length → 0 ≤ c → c ≤ j → Ev (fun k => spec_l5Good.l0 k c l (l.length : Int) (j : Int)) ((l.drop j).all setOk && stackV c (l.drop j)) := by
 intro d
 induction d with
 | zero =>
  intro j c hj h0 h1
  refine Ev.step (f := fun _ => some (c == 1)) (fun k => ?_) (by rw [List.drop_of_length_le (by omega)]; exact Ev.now _)
  simp only [spec_l5Good.l0]
  rw [if_neg (by omega)]
 | succ d ih =>
  intro j c hj h0 h1
  have hj' : j < l.length := by omega
  have hx := hr _ (List.getElem_mem hj')
  have e1 : wrap64 ((j : Int) + 1) = ((j + 1 : Nat) : Int) := by rw [wr _ (by omega) (by omega)]; omega
  rw [List.drop_eq_getElem_cons hj', List.all_cons, stackV]
  refine Ev.step (fun k => by simp only [spec_l5Good.l0]; rw [if_pos (by omega), if_pos (by omega), if_pos (by omega), rdS_I l j hj', e1]) ?_
  refine Ev.bind (node_ev (l[j]'hj') hx) ?_
  have hc := arV_cases (l[j]'hj').f0
  by_cases ha : 0 ≤ arV (l[j]'hj').f0
  ·rw [decide_eq_true ha, Bool.true_and, Bool.true_and]
   cases setOk (l[j]'hj') with
   | false => exact Ev.congr (fun k => by rw [if_neg (by simp)]) (by simpa using Ev.now false)
   | true =>
    refine Ev.congr (fun k => by rw [if_pos rfl]) (Ev.bind (specAr_ev (l[j]'hj').f0) ?_)
    rw [Bool.true_and]
    by_cases hp : c < arV (l[j]'hj').f0
    ·rw [show decide (arV (l[j]'hj').f0 ≤ c) = false from decide_eq_false (by omega), Bool.false_and, Bool.and_false]
     exact Ev.congr (fun k => by rw [if_pos hp]) (Ev.now _)
    ·rw [show decide (arV (l[j]'hj').f0 ≤ c) = true from decide_eq_true (by omega), Bool.true_and]
     refine Ev.congr (fun k => by rw [if_neg hp]) (Ev.bind (specAr_ev (l[j]'hj').f0) ?_)
     have e2 : wrap64 (c + wrap64 (1 - arV (l[j]'hj').f0)) = c + 1 - arV (l[j]'hj').f0 := by rw [wr (1 - arV (l[j]'hj').f0) (by omega) (by omega), wr _ (by omega) (by omega)]; omega
     rw [e2]
     exact ih (j + 1) (c + 1 - arV (l[j]'hj').f0) (by omega) (by omega) (by omega)
  ·rw [decide_eq_false ha, Bool.false_and, Bool.false_and, Bool.and_false]
   exact Ev.congr (fun k => by rw [if_neg (by simp)]) (Ev.now _)
theorem specGoodRe_ev (l : List S49) (hl : l.length ≤ 1048576) (hr : ∀ x ∈ l, x.f1.length ≤ 1048576) : Ev (fun k => spec_GoodRe.f k l) (GoodRV l) := by
 unfold spec_GoodRe.f GoodRV
 by_cases h : l.length ≤ 40
 ·rw [decide_eq_true h, Bool.true_and]
  refine Ev.congr (fun k => by rw [if_pos (by omega)]) (Ev.bind (a := l.all setOk && stackV 0 l) ?_ (Ev.now _))
  unfold spec_l5Good.f
  simpa using specGoodRe_l l (by omega) hr l.length 0 0 (by omega) (by omega) (by omega)
 ·rw [decide_eq_false h, Bool.false_and]
  exact Ev.congr (fun k => by rw [if_neg (by omega)]) (Ev.now _)

theorem clone_v (l : List Int) (h : l.length ≤ 1099511627776) : slices_Clone_int_int.f l = some l := by
 unfold slices_Clone_int_int.f
 rw [if_pos (by omega)]
theorem parts_l (l : List S49) (hl : l.length ≤ 1000) : ∀ (d j : Nat) (acc : List (List Int)) (pile : List Int), j + d = l.length → acc.length ≤ j → pile.length ≤ j → ∃ L, Ev (fun k => impl_parts.l0 k acc pile l (l.length : Int) (j : Int)) (L, stackV (pile.length : Int) (l.drop j)) := by
 intro d
 induction d with
 | zero =>
  intro j acc pile hj ha hp
  refine ⟨acc, Ev.step (f := fun _ => some (acc, (pile.length : Int) == 1)) (fun k => ?_) (by rw [List.drop_of_length_le (by omega)]; exact Ev.now _)⟩
  simp only [impl_parts.l0]
  rw [if_neg (by omega)]
 | succ d ih =>
  intro j acc pile hj hacc hp
  have hj' : j < l.length := by omega
  have e1 : wrap64 ((j : Int) + 1) = ((j + 1 : Nat) : Int) := by rw [wr _ (by omega) (by omega)]; omega
  rw [List.drop_eq_getElem_cons hj', stackV]
  have hc := arV_cases (l[j]'hj').f0
  have st : ∀ (g : Nat → Option (List (List Int) × Bool)) r, Ev g r → (∀ k, (if arV (l[j]'hj').f0 < 0 then some (([] : List (List Int)), false) else (if arV (l[j]'hj').f0 > (pile.length : Int) then some (([] : List (List Int)), false) else (if 0 ≤ (wrap64 ((pile.length : Int) - arV (l[j]'hj').f0)) then (if (wrap64 ((pile.length : Int) - arV (l[j]'hj').f0)) ≤ (pile.length : Int) then ((slices_Clone_int_int.f (pile.drop ((wrap64 ((pile.length : Int) - arV (l[j]'hj').f0)) : Int).toNat)).bind fun t180 => (if acc.length < 5864062014805 then ((some (pile.take ((wrap64 ((pile.length : Int) - arV (l[j]'hj').f0)) : Int).toNat : List Int)).bind fun y186 => (if y186.length < 17592186044416 then (impl_parts.l0 k (acc ++ [t180]) (y186 ++ [(j : Int)]) l (l.length : Int) ((j + 1 : Nat) : Int)) else (none))) else (none))) else (none)) else (none)))) = g k) → Ev (fun k => impl_parts.l0 k acc pile l (l.length : Int) (j : Int)) r := by
   intro g r hg he
   refine Ev.step (fun k => by simp only [impl_parts.l0]; rw [if_pos (by omega), if_pos (by omega), if_pos (by omega), rdS_I l j hj', e1]) ?_
   exact Ev.bind (implAr_ev (l[j]'hj').f0) (Ev.congr he hg)
  by_cases ha : 0 ≤ arV (l[j]'hj').f0
  ·rw [decide_eq_true ha, Bool.true_and]
   by_cases hq : arV (l[j]'hj').f0 > (pile.length : Int)
   ·refine ⟨[], st (fun _ => some ([], false)) _ ?_ (fun k => by rw [if_neg (by omega), if_pos hq])⟩
    rw [show decide (arV (l[j]'hj').f0 ≤ (pile.length : Int)) = false from decide_eq_false (by omega), Bool.false_and]
    exact Ev.now _
   ·rw [show decide (arV (l[j]'hj').f0 ≤ (pile.length : Int)) = true from decide_eq_true (by omega), Bool.true_and]
    obtain ⟨n, hn⟩ : ∃ n : Nat, (pile.length : Int) - arV (l[j]'hj').f0 = (n : Int) := ⟨((pile.length : Int) - arV (l[j]'hj').f0).toNat, by omega⟩
    have e2 : wrap64 ((pile.length : Int) - arV (l[j]'hj').f0) = (n : Int) := by rw [hn, wr _ (by omega) (by omega)]
    have hz : (pile.drop n).length ≤ pile.length := by rw [List.length_drop]; omega
    have ht : (pile.take n).length = n := by rw [List.length_take]; omega
    obtain ⟨L, hL⟩ := ih (j + 1) (acc ++ [pile.drop n]) (pile.take n ++ [(j : Int)]) (by omega) (by simp; omega) (by rw [List.length_append, ht]; simp; omega)
    refine ⟨L, st (fun k => impl_parts.l0 k (acc ++ [pile.drop n]) (pile.take n ++ [(j : Int)]) l (l.length : Int) ((j + 1 : Nat) : Int)) _ ?_ (fun k => ?_)⟩
    ·rw [List.length_append, ht] at hL
     rw [show (pile.length : Int) + 1 - arV (l[j]'hj').f0 = ((n + [(j : Int)].length : Nat) : Int) from by simp; omega]
     exact hL
    ·rw [if_neg (by omega), if_neg hq, e2, if_pos (by omega), if_pos (by omega), Int.toNat_natCast, clone_v _ (by omega), Option.bind_some, if_pos (by omega), Option.bind_some, if_pos (by omega)]
  ·refine ⟨[], st (fun _ => some ([], false)) _ ?_ (fun k => by rw [if_pos (by omega)])⟩
   rw [decide_eq_false ha, Bool.false_and]
   exact Ev.now _
theorem parts_ev (l : List S49) (hl : l.length ≤ 1000) : ∃ L, Ev (fun k => impl_parts.f k l) (L, stackV 0 l) := by
 obtain ⟨L, h⟩ := parts_l l hl l.length 0 [] [] (by omega) (by simp) (by simp)
 exact ⟨L, Ev.congr (fun k => by unfold impl_parts.f; rfl) (by simpa using h)⟩

theorem anyO_ev {α : Type} (f : Nat → α → Option Bool) (p : α → Bool) (l : List α) (h : ∀ x ∈ l, Ev (fun k => f k x) (p x)) : Ev (fun k => anyO (f k) l) (l.any p) := by
 have key : ∃ K, ∀ k, K ≤ k → ∀ x ∈ l, f k x = some (p x) := by
  induction l with
  | nil => exact ⟨0, fun k _ x hx => by cases hx⟩
  | cons y t ih =>
   obtain ⟨K1, h1⟩ := ih (fun x hx => h x (by simp [hx]))
   obtain ⟨K2, h2⟩ := h y (by simp)
   refine ⟨max K1 K2, fun k hk x hx => ?_⟩
   rcases List.mem_cons.1 hx with rfl | hx
   ·exact h2 k (by omega)
   ·exact h1 k (by omega) x hx
 obtain ⟨K, hK⟩ := key
 refine ⟨K, fun k hk => ?_⟩
 have hf := hK k hk
 show anyO (f k) l = some (l.any p)
 unfold anyO
 rw [if_pos (List.all_eq_true.2 fun x hx => by rw [hf x hx]; rfl)]
 congr 1
 rw [Bool.eq_iff_iff, List.any_eq_true, List.any_eq_true]
 exact ⟨fun ⟨x, hx, e⟩ => ⟨x, hx, by rw [hf x hx] at e; exact e⟩, fun ⟨x, hx, e⟩ => ⟨x, hx, by rw [hf x hx]; exact e⟩⟩
theorem badRune_isR (r : Int) : badRuneV r = !isR r := by
 unfold badRuneV goodRuneV isR inB
 rfl
theorem badRe_ev (x : S49) (hl : x.f1.length ≤ 1048576) : Ev (fun k => badReO k x) (!setOk x) := by
 unfold badReO
 refine Ev.bind (implSet_ev x.f1 (by omega)) ?_
 have e : (!GoodS x.f1 || (x.f1.any badRuneV || (decide (x.f0 ≠ 2) && decide ((x.f1.length : Int) > 0)))) = !setOk x := by
  unfold setOk
  have e1 : x.f1.any badRuneV = !x.f1.all isR := by
   rw [List.not_all_eq_any_not]
   exact congrArg x.f1.any (funext badRune_isR)
  have e2 : (decide (x.f0 ≠ 2) && decide ((x.f1.length : Int) > 0)) = !(decide (x.f0 = 2) || decide (x.f1.length = 0)) := by
   rw [Bool.not_or, Bool.eq_iff_iff]
   simp only [Bool.and_eq_true, decide_eq_true_eq, Bool.not_eq_true', decide_eq_false_iff_not]
   omega
  rw [e1, e2, Bool.not_and, Bool.not_and]
 rw [e]
 exact Ev.now _
theorem implGoodRe_ev (l : List S49) (hl : l.length ≤ 1048576) (hr : ∀ x ∈ l, x.f1.length ≤ 1048576) : Ev (fun k => impl_GoodRe.f k l) (GoodRV l) := by
 unfold impl_GoodRe.f GoodRV
 rw [in_i]
 refine Ev.bind (Ev.now _) ?_
 by_cases h : 1 ≤ (l.length : Int) ∧ (l.length : Int) ≤ 40
 ·rw [(inB_iff 1 40 _).2 h, decide_eq_true (show l.length ≤ 40 by omega), Bool.true_and]
  refine Ev.congr (fun k => by rw [if_pos rfl]) (Ev.bind (anyO_ev (fun k x => badReO k x) (fun x => !setOk x) l (fun x hx => badRe_ev x (hr x hx))) ?_)
  rw [← List.not_all_eq_any_not]
  cases l.all setOk with
  | false => exact Ev.congr (fun k => by rw [if_pos (by simp)]) (by simpa using Ev.now false)
  | true =>
   obtain ⟨L, hL⟩ := parts_ev l (by omega)
   refine Ev.congr (fun k => by rw [if_neg (by simp)]) (Ev.bind hL ?_)
   rw [Bool.true_and]
   exact Ev.now _
 ·rw [show inB 1 40 (l.length : Int) = false from by cases e : inB 1 40 (l.length : Int) with | false => rfl | true => exact absurd ((inB_iff _ _ _).1 e) h]
  refine Ev.congr (fun k => by rw [if_neg (by simp)]) ?_
  by_cases h0 : l.length ≤ 40
  ·have : l = [] := List.eq_nil_of_length_eq_zero (by omega)
   subst this
   exact Ev.now _
  ·rw [decide_eq_false h0, Bool.false_and]
   exact Ev.now _
theorem goodS_nil : GoodS [] = true := by first | rfl | decide | simp [GoodS]
/-- A pattern as a tree. -/
inductive Pt where
 | l (n : S49) : Pt
 | u (n : S49) (a : Pt) : Pt
 | b (n : S49) (x y : Pt) : Pt
namespace Pt
def flat : Pt → List S49
 | l n => [n]
 | u n a => a.flat ++ [n]
 | b n x y => x.flat ++ (y.flat ++ [n])
def ok : Pt → Prop
 | l n => arV n.f0 = 0
 | u n a => arV n.f0 = 1 ∧ a.ok
 | b n x y => arV n.f0 = 2 ∧ x.ok ∧ y.ok
theorem flat_pos : ∀ t : Pt, 0 < t.flat.length
 | l _ => by simp [flat]
 | u _ _ => by simp [flat]
 | b _ _ _ => by simp [flat]; omega
/-- The root's node. -/
def root : Pt → S49
 | l n => n
 | u n _ => n
 | b n _ _ => n
end Pt
def flats : List Pt → List S49
 | [] => []
 | t :: st => flats st ++ t.flat
def oks (st : List Pt) : Prop := ∀ t ∈ st, t.ok
/-- What a stack of trees becomes by nodes. -/
def build : List S49 → List Pt → Option (List Pt)
 | [], st => some st
 | n :: p, st => if arV n.f0 = 0 then build p (.l n :: st) else if arV n.f0 = 1 then (match st with | a :: st => build p (.u n a :: st) | [] => none) else if arV n.f0 = 2 then (match st with | y :: x :: st => build p (.b n x y :: st) | _ => none) else none
theorem build_inv : ∀ (p : List S49) (st st' : List Pt), oks st → build p st = some st' → oks st' ∧ flats st' = flats st ++ p
 | [], st, st', hk, h => by
  simp only [build, Option.some.injEq] at h
  subst h
  exact ⟨hk, by simp⟩
 | n :: p, st, st', hk, h => by
  simp only [build] at h
  split at h
  ·rename_i h0
   obtain ⟨a, b⟩ := build_inv p _ _ (fun t ht => by rcases List.mem_cons.1 ht with rfl | ht; exact h0; exact hk t ht) h
   exact ⟨a, by rw [b]; simp [flats, Pt.flat]⟩
  ·split at h
   ·rename_i h1
    cases st with
    | nil => cases h
    | cons a st =>
     obtain ⟨q, r⟩ := build_inv p _ _ (fun t ht => by rcases List.mem_cons.1 ht with rfl | ht; exact ⟨h1, hk a (by simp)⟩; exact hk t (by simp [ht])) h
     exact ⟨q, by rw [r]; simp [flats, Pt.flat]⟩
   ·split at h
    ·rename_i h2
     match st, hk, h with
     | [], _, h => cases h
     | [_], _, h => cases h
     | y :: x :: st, hk, h =>
      obtain ⟨q, r⟩ := build_inv p _ _ (fun t ht => by rcases List.mem_cons.1 ht with rfl | ht; exact ⟨h2, hk x (by simp), hk y (by simp)⟩; exact hk t (by simp [ht])) h
      exact ⟨q, by rw [r]; simp [flats, Pt.flat]⟩
    ·cases h
/-- A list of nodes whose count stays right is built. -/
theorem build_stack : ∀ (p : List S49) (st : List Pt), stackV (st.length : Int) p = true → ∃ t, build p st = some [t]
 | [], st, h => by
  simp only [stackV, decide_eq_true_eq] at h
  match st, h with
  | [t], _ => exact ⟨t, rfl⟩
  | [], h => simp at h
  | _ :: _ :: st, h => simp at h; omega
 | n :: p, st, h => by
  simp only [stackV, Bool.and_eq_true, decide_eq_true_eq] at h
  obtain ⟨h0, h1, h2⟩ := h
  simp only [build]
  split
  ·rename_i e
   exact build_stack p _ (by rw [e] at h2; simpa using h2)
  ·split
   ·rename_i e
    match st, h1, h2 with
    | [], h1, _ => simp at h1; omega
    | a :: st, _, h2 => exact build_stack p _ (by rw [e] at h2; simpa using h2)
   ·split
    ·rename_i e
     match st, h1, h2 with
     | [], h1, _ => simp at h1; omega
     | [_], h1, _ => simp at h1; omega
     | y :: x :: st, _, h2 => exact build_stack p _ (by rw [e] at h2; simp only [List.length_cons] at h2 ⊢; rw [show (((st.length + 1 : Nat)) : Int) = ((st.length + 1 + 1 : Nat) : Int) + 1 - 2 from by omega]; exact h2)
    ·rename_i e0 e1 e2
     exfalso
     unfold arV at h0 e0 e1 e2
     repeat' split at h0
     all_goals simp_all
theorem stack_flat : ∀ (t : Pt), t.ok → ∀ (p : List S49) (c : Int), 0 ≤ c → stackV c (t.flat ++ p) = stackV (c + 1) p
 | .l n, h, p, c, hc => by
  simp only [Pt.ok] at h
  simp only [Pt.flat, List.cons_append, List.nil_append, stackV]
  rw [h, decide_eq_true (by omega), decide_eq_true (by omega), Bool.true_and, Bool.true_and, show c + 1 - 0 = c + 1 from by omega]
 | .u n a, h, p, c, hc => by
  obtain ⟨h1, h2⟩ := h
  simp only [Pt.flat, List.append_assoc]
  rw [stack_flat a h2 _ c hc]
  simp only [List.cons_append, List.nil_append, stackV]
  rw [h1, decide_eq_true (by omega), decide_eq_true (by omega), Bool.true_and, Bool.true_and, show c + 1 + 1 - 1 = c + 1 from by omega]
 | .b n x y, h, p, c, hc => by
  obtain ⟨h1, h2, h3⟩ := h
  simp only [Pt.flat, List.append_assoc]
  rw [stack_flat x h2 _ c hc, stack_flat y h3 _ _ (by omega)]
  simp only [List.cons_append, List.nil_append, stackV]
  rw [h1, decide_eq_true (by omega), decide_eq_true (by omega), Bool.true_and, Bool.true_and, show c + 1 + 1 + 1 - 2 = c + 1 from by omega]
/-- A good list is one tree's. -/
theorem tree_of (p : List S49) (h : stackV 0 p = true) : ∃ t : Pt, t.ok ∧ p = t.flat := by
 obtain ⟨t, ht⟩ := build_stack p [] h
 obtain ⟨a, b⟩ := build_inv p [] [t] (fun _ h => by cases h) ht
 exact ⟨t, a t (by simp), by simpa [flats] using b.symm⟩
theorem stack_tree (t : Pt) (h : t.ok) : stackV 0 t.flat = true := by
 have := stack_flat t h [] 0 (by omega)
 rw [List.append_nil] at this
 rw [this]; simp [stackV]
/-- A node without a set. -/
def nd (op : Int) : S49 := ⟨op, []⟩
theorem nd_ok (op : Int) : setOk (nd op) = true := by simp [setOk, nd, goodS_nil]
/-- Every node's set is as it must be. -/
def Pt.sets (t : Pt) : Prop := ∀ x ∈ t.flat, setOk x = true
theorem Pt.sets_l {n : S49} : (Pt.l n).sets ↔ setOk n = true := by simp [Pt.sets, Pt.flat]
theorem Pt.sets_u {n : S49} {a : Pt} : (Pt.u n a).sets ↔ a.sets ∧ setOk n = true := by
 simp only [Pt.sets, Pt.flat, List.mem_append, List.mem_singleton]
 exact ⟨fun h => ⟨fun x hx => h x (.inl hx), h n (.inr rfl)⟩, fun h x hx => hx.elim (h.1 x) (fun e => e ▸ h.2)⟩
theorem Pt.sets_b {n : S49} {a b : Pt} : (Pt.b n a b).sets ↔ a.sets ∧ b.sets ∧ setOk n = true := by
 simp only [Pt.sets, Pt.flat, List.mem_append, List.mem_singleton]
 exact ⟨fun h => ⟨fun x hx => h x (.inl hx), fun x hx => h x (.inr (.inl hx)), h n (.inr (.inr rfl))⟩, fun h x hx => hx.elim (h.1 x) (fun e => e.elim (h.2.1 x) (fun e => e ▸ h.2.2))⟩
/-- Good lists are the good trees'. -/
theorem good_tree {p : List S49} (h : GoodRV p = true) : ∃ t : Pt, t.ok ∧ t.sets ∧ p = t.flat ∧ p.length ≤ 40 := by
 simp only [GoodRV, Bool.and_eq_true, decide_eq_true_eq] at h
 obtain ⟨h1, h2, h3⟩ := h
 obtain ⟨t, a, b⟩ := tree_of p h3
 subst b
 exact ⟨t, a, fun x hx => List.all_eq_true.1 h2 x hx, rfl, h1⟩
theorem tree_good {t : Pt} (h1 : t.ok) (h2 : t.sets) : GoodRV t.flat = decide (t.flat.length ≤ 40) := by
 simp only [GoodRV]
 rw [List.all_eq_true.2 h2, stack_tree t h1]; simp
/-- A node that is no set's has none. -/
theorem set_none {n : S49} (h : setOk n = true) (h2 : n.f0 ≠ 2) : n.f1 = [] := by
 simp only [setOk, Bool.and_eq_true, Bool.or_eq_true, decide_eq_true_eq, List.length_eq_zero_iff] at h
 rcases h.2.2 with h | h
 ·exact absurd h h2
 ·exact h
/-- Two nodes, two patterns are the same. -/
def sameN (x y : S49) : Bool := x.f0 == y.f0 && x.f1 == y.f1
def sameP : List S49 → List S49 → Bool
 | [], [] => true
 | x :: a, y :: b => sameN x y && sameP a b
 | _, _ => false
theorem sameN_eq {x y : S49} : sameN x y = true ↔ x = y := by
 obtain ⟨a, b⟩ := x
 obtain ⟨c, d⟩ := y
 simp [sameN]
theorem sameP_eq : ∀ {a b : List S49}, sameP a b = true ↔ a = b
 | [], [] => by simp [sameP]
 | x :: a, y :: b => by simp [sameP, sameN_eq, sameP_eq (a := a) (b := b)]
 | [], _ :: _ => by simp [sameP]
 | _ :: _, [] => by simp [sameP]
/-- A tree's nodes that are well set: a list of them. -/
def isTree (p : List S49) : Prop := ∃ t : Pt, t.ok ∧ t.sets ∧ p = t.flat
theorem isTree.pos {p : List S49} (h : isTree p) : 0 < p.length := by
 obtain ⟨t, _, _, rfl⟩ := h
 exact t.flat_pos
theorem isTree_nd0 {op : Int} (h : arV op = 0) : isTree [nd op] := ⟨.l (nd op), h, Pt.sets_l.2 (nd_ok op), rfl⟩
theorem isTree_1 {op : Int} {p : List S49} (h : arV op = 1) (hp : isTree p) : isTree (p ++ [nd op]) := by
 obtain ⟨t, a, b, rfl⟩ := hp
 exact ⟨.u (nd op) t, ⟨h, a⟩, Pt.sets_u.2 ⟨b, nd_ok op⟩, rfl⟩
theorem isTree_2 {op : Int} {p q : List S49} (h : arV op = 2) (hp : isTree p) (hq : isTree q) : isTree (p ++ (q ++ [nd op])) := by
 obtain ⟨t, a, b, rfl⟩ := hp
 obtain ⟨t', a', b', rfl⟩ := hq
 exact ⟨.b (nd op) t t', ⟨h, a, a'⟩, Pt.sets_b.2 ⟨b, b', nd_ok op⟩, rfl⟩
/-- The last node's op. -/
def lastOp (p : List S49) : Int := (p.getLastD ⟨0, []⟩).f0
theorem lastOp_snoc (p : List S49) (n : S49) : lastOp (p ++ [n]) = n.f0 := by simp [lastOp]
theorem isTree_not {p : List S49} (hp : isTree p) (h : arV (lastOp p) = 1) : isTree p.dropLast := by
 obtain ⟨t, a, b, rfl⟩ := hp
 cases t with
 | l n => simp only [Pt.flat, lastOp, List.getLastD_cons, List.getLastD_nil] at h; simp only [Pt.ok] at a; omega
 | u n t => exact ⟨t, a.2, (Pt.sets_u.1 b).1, by simp [Pt.flat]⟩
 | b n x y =>
  exfalso
  have : lastOp (Pt.b n x y).flat = n.f0 := by
   rw [show (Pt.b n x y).flat = (x.flat ++ y.flat) ++ [n] from by simp [Pt.flat]]; exact lastOp_snoc _ _
  rw [this] at h
  have := a.1
  omega
/-- What a node of tidy parts is tidied to. -/
def isNo (p : List S49) : Bool := sameP p [nd 2]
def isNi (p : List S49) : Bool := sameP p [nd 1]
def tidied1 (op : Int) (a : List S49) : List S49 :=
 if op = 6 then (if isNi a = true then [nd 1] else if isNo a = true then [nd 1] else if lastOp a = 6 then a else a ++ [nd op]) else if lastOp a = 7 then a.dropLast else a ++ [nd op]
def tidied2 (op : Int) (a b : List S49) : List S49 :=
 if op = 3 then (if isNo a = true then [nd 2] else if isNo b = true then [nd 2] else if isNi a = true then b else if isNi b = true then a else a ++ (b ++ [nd op]))
 else if op = 4 then (if isNo a = true then b else if sameP a b = true then b else if isNo b = true then a else a ++ (b ++ [nd op]))
 else (if isNo a = true then [nd 2] else if isNo b = true then [nd 2] else if sameP a b = true then a else a ++ (b ++ [nd op]))
def Pt.tid : Pt → List S49
 | .l n => [n]
 | .u n a => tidied1 n.f0 a.tid
 | .b n x y => tidied2 n.f0 x.tid y.tid
theorem isTree_tidied1 {op : Int} {a : List S49} (h : arV op = 1) (ha : isTree a) : isTree (tidied1 op a) := by
 unfold tidied1
 split
 ·repeat' split
  all_goals first
   | exact isTree_nd0 (by simp [arV])
   | exact isTree_1 h ha
   | exact ha
 ·split
  ·rename_i e
   exact isTree_not ha (by rw [e]; simp [arV])
  ·exact isTree_1 h ha
theorem isTree_tidied2 {op : Int} {a b : List S49} (h : arV op = 2) (ha : isTree a) (hb : isTree b) : isTree (tidied2 op a b) := by
 unfold tidied2
 repeat' split
 all_goals first
  | exact isTree_nd0 (by simp [arV])
  | exact isTree_2 h ha hb
  | assumption
theorem Pt.tid_tree : ∀ t : Pt, t.ok → t.sets → isTree t.tid
 | .l n, h, hs => ⟨.l n, h, hs, rfl⟩
 | .u n a, h, hs => isTree_tidied1 h.1 (a.tid_tree h.2 (Pt.sets_u.1 hs).1)
 | .b n x y, h, hs => isTree_tidied2 h.1 (x.tid_tree h.2.1 (Pt.sets_b.1 hs).1) (y.tid_tree h.2.2 (Pt.sets_b.1 hs).2.1)
theorem tidied1_len (op : Int) (a : List S49) (_ha : 0 < a.length) : (tidied1 op a).length ≤ a.length + 1 := by
 unfold tidied1
 repeat' split
 all_goals first | omega | (simp <;> omega)
theorem tidied2_len (op : Int) (a b : List S49) : (tidied2 op a b).length ≤ a.length + b.length + 1 := by
 unfold tidied2
 repeat' split
 all_goals first | omega | (simp <;> omega)
theorem Pt.tid_len : ∀ t : Pt, t.ok → t.sets → t.tid.length ≤ t.flat.length
 | .l n, _, _ => by simp [Pt.tid, Pt.flat]
 | .u n a, h, hs => by
  have h1 := a.tid_len h.2 (Pt.sets_u.1 hs).1
  have h2 := tidied1_len n.f0 a.tid (a.tid_tree h.2 (Pt.sets_u.1 hs).1).pos
  simp only [Pt.tid, Pt.flat, List.length_append, List.length_singleton]; omega
 | .b n x y, h, hs => by
  have h1 := x.tid_len h.2.1 (Pt.sets_b.1 hs).1
  have h2 := y.tid_len h.2.2 (Pt.sets_b.1 hs).2.1
  have h3 := tidied2_len n.f0 x.tid y.tid
  simp only [Pt.tid, Pt.flat, List.length_append, List.length_singleton]; omega
theorem rdS_mid (pre : List S49) (x : S49) (post : List S49) : rd_T49 (pre ++ x :: post) ((pre.length : Nat) : Int) = x := by
 rw [rdS_I _ _ (by simp)]; simp
/-- How many marks a list takes. -/
def totRe : List S49 → Int
 | [] => 0
 | x :: l => 1 + (x.f1.length : Int) + totRe l
theorem totRe_pos : ∀ l : List S49, 0 ≤ totRe l
 | [] => Int.le_refl _
 | x :: l => by have := totRe_pos l; simp only [totRe]; omega
theorem totRe_le (B : Int) : ∀ l : List S49, (∀ x ∈ l, (x.f1.length : Int) ≤ B) → totRe l ≤ (l.length : Int) * (1 + B)
 | [], _ => by simp [totRe]
 | x :: l, h => by
  have h1 := totRe_le B l (fun y hy => h y (List.mem_cons_of_mem _ hy))
  have h2 := h x List.mem_cons_self
  simp only [totRe, List.length_cons]
  rw [show ((l.length + 1 : Nat) : Int) * (1 + B) = (l.length : Int) * (1 + B) + (1 + B) from by rw [Int.natCast_add, Int.add_mul]; simp]
  omega
def markL : Int → List S49 → List S49
 | _, [] => []
 | m, x :: l => ⟨m, iota (m + 1) x.f1.length⟩ :: markL (m + 1 + (x.f1.length : Int)) l
theorem markRe_l : ∀ (l pre : List S49) (m : Int), 0 ≤ m → m + totRe l ≤ 4611686018427387904 → pre.length + l.length ≤ 1000000000 → Ev (fun k => laws_markReS.l0 k (pre ++ l) m ((pre.length : Nat) : Int)) (m + totRe l, pre ++ markL m l)
 | [], pre, m, _, _, _ => by
  refine Ev.step (f := fun _ => some (m, pre)) (fun k => ?_) (by simpa [totRe, markL] using Ev.now (m, pre))
  simp only [laws_markReS.l0, List.append_nil]
  rw [if_neg (by omega)]
 | x :: l, pre, m, h0, h1, h2 => by
  have ht := totRe_pos l
  simp only [totRe] at h1
  simp only [List.length_cons] at h2
  have e1 : wrap64 (m + 1) = m + 1 := wr _ (by omega) (by omega)
  have e2 : wrap64 (((pre.length : Nat) : Int) + 1) = (((pre ++ [(⟨m, iota (m + 1) x.f1.length⟩ : S49)]).length : Nat) : Int) := by rw [wr _ (by omega) (by omega)]; simp
  have ih := markRe_l l (pre ++ [⟨m, iota (m + 1) x.f1.length⟩]) (m + 1 + (x.f1.length : Int)) (by omega) (by omega) (by simp; omega)
  refine Ev.step (f := fun k => (laws_markIntS.f k x.f1 (m + 1)).bind fun q => laws_markReS.l0 k ((pre ++ x :: l).set (((pre.length : Nat) : Int)).toNat ⟨m, q.2⟩) q.1 (((pre ++ [(⟨m, iota (m + 1) x.f1.length⟩ : S49)]).length : Nat) : Int)) (fun k => ?_) (Ev.bind (markIntS_ev x.f1 (m + 1) (by omega) (by omega)) ?_)
  ·simp only [laws_markReS.l0]
   rw [if_pos (by simp only [List.length_append, List.length_cons]; omega)]
   (try rw [if_pos (show (0 : Int) ≤ ((pre.length : Nat) : Int) from by omega)])
   rw [rdS_mid, e1, e2]
  ·refine Ev.congr (fun k => ?_) (by simpa [totRe, markL, List.append_assoc, Int.add_assoc] using ih)
   simp [List.append_assoc, Int.add_assoc]
theorem markRe_ev (l : List S49) (h1 : l.length ≤ 1000000000) (h2 : totRe l ≤ 2305843009213693952) : Ev (fun k => laws_markReS.f k l 1) (1 + totRe l, markL 1 l) :=
 Ev.congr (fun k => by unfold laws_markReS.f; rfl) (markRe_l l [] 1 (by omega) (by omega) (by simpa using h1))
theorem heldRe_l : ∀ (l pre : List S49) (m : Int), 0 ≤ m → m + totRe l ≤ 4611686018427387904 → pre.length + l.length ≤ 1000000000 → Ev (fun k => laws_heldReS.l0 k (pre ++ markL m l) m ((pre.length : Nat) : Int)) (m + totRe l)
 | [], pre, m, _, _, _ => by
  refine Ev.step (f := fun _ => some m) (fun k => ?_) (by simpa [totRe] using Ev.now m)
  simp only [laws_heldReS.l0, markL, List.append_nil]
  rw [if_neg (by omega)]
 | x :: l, pre, m, h0, h1, h2 => by
  have ht := totRe_pos l
  simp only [totRe] at h1
  simp only [List.length_cons] at h2
  have e1 : wrap64 (m + 1) = m + 1 := wr _ (by omega) (by omega)
  have e2 : wrap64 (((pre.length : Nat) : Int) + 1) = (((pre ++ [(⟨m, iota (m + 1) x.f1.length⟩ : S49)]).length : Nat) : Int) := by rw [wr _ (by omega) (by omega)]; simp
  have ih := heldRe_l l (pre ++ [⟨m, iota (m + 1) x.f1.length⟩]) (m + 1 + (x.f1.length : Int)) (by omega) (by omega) (by simp; omega)
  refine Ev.step (f := fun k => (laws_heldIntS.f k (iota (m + 1) x.f1.length) (m + 1)).bind fun t => if t < 0 then some (-1) else laws_heldReS.l0 k (pre ++ markL m (x :: l)) t (((pre ++ [(⟨m, iota (m + 1) x.f1.length⟩ : S49)]).length : Nat) : Int)) (fun k => ?_) (Ev.bind (heldIntS_ev (m + 1) x.f1.length (by omega) (by omega)) ?_)
  ·have er : rd_T49 (pre ++ markL m (x :: l)) ((pre.length : Nat) : Int) = ⟨m, iota (m + 1) x.f1.length⟩ := rdS_mid pre _ _
   simp only [laws_heldReS.l0]
   rw [if_pos (by simp only [markL, List.length_append, List.length_cons]; omega)]
   (try rw [if_pos (show (0 : Int) ≤ ((pre.length : Nat) : Int) from by omega)])
   rw [er, if_pos rfl, e1, e2]
  ·refine Ev.congr (f := fun k => laws_heldReS.l0 k (pre ++ [(⟨m, iota (m + 1) x.f1.length⟩ : S49)] ++ markL (m + 1 + (x.f1.length : Int)) l) (m + 1 + (x.f1.length : Int)) (((pre ++ [(⟨m, iota (m + 1) x.f1.length⟩ : S49)]).length : Nat) : Int)) (fun k => ?_) (by simpa [totRe, Int.add_assoc] using ih)
   rw [if_neg (by omega)]
   simp [markL, List.append_assoc]
theorem heldRe_ev (l : List S49) (h1 : l.length ≤ 1000000000) (h2 : totRe l ≤ 2305843009213693952) : Ev (fun k => laws_heldReS.f k (markL 1 l) 1) (1 + totRe l) :=
 Ev.congr (fun k => by unfold laws_heldReS.f; rfl) (heldRe_l l [] 1 (by omega) (by omega) (by simpa using h1))
theorem specOwnI_v (l : List Int) (h : l.length ≤ 1099511627776) : spec_l1Own.f l = some l := by
 unfold spec_l1Own.f
 rw [Option.bind_some, if_pos (by simp; omega)]
 simp
theorem specOwn_l (l : List S49) (hl : l.length ≤ 1000000) (hr : ∀ x ∈ l, x.f1.length ≤ 1048576) : ∀ (d j : Nat), j + d = l.length → Ev (fun k => spec_l5Own.l0 k (l.take j) l (l.length : Int) (j : Int)) l := by
 intro d
 induction d with
 | zero =>
  intro j hj
  refine Ev.step (f := fun _ => some l) (fun k => ?_) (Ev.now _)
  simp only [spec_l5Own.l0]
  rw [if_neg (by omega), List.take_of_length_le (by omega)]
 | succ d ih =>
  intro j hj
  have hj' : j < l.length := by omega
  have e1 : wrap64 ((j : Int) + 1) = ((j + 1 : Nat) : Int) := by rw [wr _ (by omega) (by omega)]; omega
  refine Ev.step (f := fun k => spec_l5Own.l0 k (l.take (j + 1)) l (l.length : Int) ((j + 1 : Nat) : Int)) (fun k => ?_) (ih (j + 1) (by omega))
  simp only [spec_l5Own.l0]
  rw [if_pos (by omega), if_pos (by omega), if_pos (by omega), rdS_I l j hj', specOwnI_v _ (by have := hr _ (List.getElem_mem hj'); omega), Option.bind_some, if_pos (by rw [List.length_take]; omega), e1, List.take_succ_eq_append_getElem hj']
theorem specOwn_ev (l : List S49) (hl : l.length ≤ 1000000) (hr : ∀ x ∈ l, x.f1.length ≤ 1048576) : Ev (fun k => spec_l5Own.f k l) l :=
 Ev.congr (fun k => by unfold spec_l5Own.f; simp) (specOwn_l l hl hr l.length 0 (by omega))
/-- Back over a tree's nodes. -/
theorem first_tree (L : List S49) (hL : L.length ≤ 1000000) (r : Int) : ∀ (t : Pt), t.ok → ∀ (pre post : List S49) (need : Int), L = pre ++ (t.flat ++ post) → 1 ≤ need → need + (t.flat.length : Int) ≤ 1000000000 →
  Ev (fun k => spec_l5First.l0 k L (need - 1) ((pre.length : Int) - 1)) r → Ev (fun k => spec_l5First.l0 k L need ((pre.length : Int) + (t.flat.length : Int) - 1)) r := by
 have step : ∀ (pre post : List S49) (n : S49) (need : Int), L = pre ++ (n :: post) → 1 ≤ need → need ≤ 1000000000 → 0 ≤ arV n.f0 →
   Ev (fun k => spec_l5First.l0 k L (need + arV n.f0 - 1) ((pre.length : Int) - 1)) r → Ev (fun k => spec_l5First.l0 k L need (pre.length : Int)) r := by
  intro pre post n need e h1 h2 h3 h
  have hl : pre.length < L.length := by rw [e]; simp
  have ha : arV n.f0 ≤ 2 := by rcases arV_cases n.f0 with h | h | h | h <;> omega
  have e1 : wrap64 (arV n.f0 - 1) = arV n.f0 - 1 := wr _ (by omega) (by omega)
  have e2 : wrap64 (need + (arV n.f0 - 1)) = need + arV n.f0 - 1 := by rw [wr _ (by omega) (by omega)]; omega
  have e3 : wrap64 ((pre.length : Int) - 1) = (pre.length : Int) - 1 := wr _ (by omega) (by omega)
  have er : rd_T49 L ((pre.length : Nat) : Int) = n := by rw [e]; exact rdS_mid pre n post
  refine Ev.step (f := fun k => (spec_l5Arity.f k n.f0).bind fun t => spec_l5First.l0 k L (wrap64 (need + (wrap64 (t - 1)))) (wrap64 ((pre.length : Int) - 1))) (fun k => ?_) (Ev.bind (specAr_ev n.f0) (Ev.congr (fun k => by rw [e1, e2, e3]) h))
  simp only [spec_l5First.l0]
  rw [if_pos (by omega)]
  (try rw [if_pos (show (0 : Int) ≤ ((pre.length : Nat) : Int) from by omega)])
  rw [if_pos (by omega), er]
 intro t
 induction t with
 | l n =>
  intro ho pre post need e h1 h2 h
  have ho' : arV n.f0 = 0 := ho
  have := step pre post n need (by simpa [Pt.flat] using e) h1 (by omega) (by omega) (by rw [ho']; simpa using h)
  simpa [Pt.flat] using this
 | u n a ih =>
  intro ho pre post need e h1 h2 h
  have ho' : arV n.f0 = 1 := ho.1
  simp only [Pt.flat, List.length_append, List.length_singleton] at h2
  have h3 := ih ho.2 pre (n :: post) need (by simpa [Pt.flat] using e) h1 (by omega) h
  have := step (pre ++ a.flat) post n need (by simpa [Pt.flat] using e) h1 (by omega) (by omega) (by rw [ho']; refine Ev.congr (fun k => ?_) h3; simp only [List.length_append]; congr 1 <;> omega)
  refine Ev.congr (fun k => ?_) this
  simp only [Pt.flat, List.length_append, List.length_singleton]
  congr 1 <;> omega
 | b n x y ihx ihy =>
  intro ho pre post need e h1 h2 h
  have ho' : arV n.f0 = 2 := ho.1
  simp only [Pt.flat, List.length_append, List.length_singleton] at h2
  have h3 := ihx ho.2.1 pre (y.flat ++ n :: post) need (by simpa [Pt.flat] using e) h1 (by omega) h
  have h4 := ihy ho.2.2 (pre ++ x.flat) (n :: post) (need + 1) (by simpa [Pt.flat] using e) (by omega) (by omega) (by refine Ev.congr (fun k => ?_) h3; simp only [List.length_append]; congr 1 <;> omega)
  have := step (pre ++ x.flat ++ y.flat) post n need (by simpa [Pt.flat] using e) h1 (by omega) (by omega) (by rw [ho']; refine Ev.congr (fun k => ?_) h4; simp only [List.length_append]; congr 1 <;> omega)
  refine Ev.congr (fun k => ?_) this
  simp only [Pt.flat, List.length_append, List.length_singleton]
  congr 1 <;> omega
/-- The first part's root. -/
theorem first_ev (pre post : List S49) (n : S49) (x y : Pt) (hy : y.ok) (hL : (pre ++ (x.flat ++ (y.flat ++ n :: post))).length ≤ 1000000) :
  Ev (fun k => spec_l5First.f k (pre ++ (x.flat ++ (y.flat ++ n :: post))) ((pre.length : Int) + (x.flat.length : Int) + (y.flat.length : Int))) ((pre.length : Int) + (x.flat.length : Int) - 1) := by
 have hx := x.flat_pos
 simp only [List.length_append, List.length_cons] at hL
 have h0 : Ev (fun k => spec_l5First.l0 k (pre ++ (x.flat ++ (y.flat ++ n :: post))) (1 - 1) (((pre ++ x.flat).length : Nat) - 1 : Int)) ((pre.length : Int) + (x.flat.length : Int) - 1) := by
  refine Ev.step (f := fun _ => some ((pre.length : Int) + (x.flat.length : Int) - 1)) (fun k => ?_) (Ev.now _)
  simp only [spec_l5First.l0]
  rw [if_neg (by omega)]
  simp
 have := first_tree _ (by simp only [List.length_append, List.length_cons]; omega) _ y hy (pre ++ x.flat) (n :: post) 1 (by simp) (by omega) (by omega) h0
 refine Ev.congr (fun k => ?_) this
 unfold spec_l5First.f
 rw [wr _ (by omega) (by omega)]
 simp only [List.length_append]
 congr 1 <;> omega
theorem rd_root (pre post : List S49) (n : S49) (L : List S49) (i : Int) (e : L = pre ++ (n :: post)) (hi : i = (pre.length : Int)) : rd_T49 L i = n := by rw [e, hi]; exact rdS_mid pre n post
theorem cut_one (pre post : List S49) (n : S49) (L : List S49) (e : L = pre ++ (n :: post)) : (List.take (((pre.length + 1 : Nat) : Int)).toNat L).drop ((pre.length : Nat) : Int).toNat = [n] := by
 rw [Int.toNat_natCast, Int.toNat_natCast, e, List.take_append, List.drop_append]
 simp
/-- What parts tells of a tree's nodes, the first of which stands at i. -/
def outsL : Pt → Int → List (List Int)
 | .l _, _ => [[]]
 | .u _ a, i => outsL a i ++ [[i + (a.flat.length : Int) - 1]]
 | .b _ x y, i => outsL x i ++ (outsL y (i + (x.flat.length : Int)) ++ [[i + (x.flat.length : Int) - 1, i + (x.flat.length : Int) + (y.flat.length : Int) - 1]])
theorem outsL_len : ∀ (t : Pt) (i : Int), (outsL t i).length = t.flat.length
 | .l _, _ => rfl
 | .u _ a, i => by simp [outsL, Pt.flat, outsL_len a]
 | .b _ x y, i => by simp [outsL, Pt.flat, outsL_len x, outsL_len y]
theorem parts_step (l : List S49) (hl : l.length ≤ 1000) (pre post : List S49) (n : S49) (e : l = pre ++ (n :: post)) (acc : List (List Int)) (rest top : List Int) (ha : acc.length ≤ pre.length) (hp : (rest ++ top).length ≤ pre.length) (har : arV n.f0 = (top.length : Int)) (r : List (List Int) × Bool)
  (h : Ev (fun k => impl_parts.l0 k (acc ++ [top]) (rest ++ [(pre.length : Int)]) l (l.length : Int) ((pre ++ [n]).length : Int)) r) : Ev (fun k => impl_parts.l0 k acc (rest ++ top) l (l.length : Int) (pre.length : Int)) r := by
 have hj : pre.length < l.length := by rw [e]; simp
 have e1 : wrap64 ((pre.length : Int) + 1) = ((pre ++ [n]).length : Int) := by rw [wr _ (by omega) (by omega)]; simp
 have e2 : wrap64 (((rest ++ top).length : Int) - (top.length : Int)) = ((rest.length : Nat) : Int) := by simp only [List.length_append] at hp ⊢; rw [wr _ (by omega) (by omega)]; omega
 refine Ev.step (fun k => by simp only [impl_parts.l0]; rw [if_pos (by omega), if_pos (by omega), if_pos (by omega), rd_root pre post n l _ e rfl, e1]) (Ev.bind (implAr_ev n.f0) ?_)
 refine Ev.congr (fun k => ?_) h
 simp only [List.length_append] at hp
 rw [har, if_neg (by omega), if_neg (by simp only [List.length_append]; omega), e2, if_pos (by omega), if_pos (by simp only [List.length_append]; omega), Int.toNat_natCast, List.drop_left, List.take_left, clone_v _ (by omega), Option.bind_some, if_pos (by omega), Option.bind_some, if_pos (by omega)]
theorem parts_tree (l : List S49) (hl : l.length ≤ 1000) (r : List (List Int) × Bool) : ∀ (t : Pt), t.ok → ∀ (pre post : List S49) (acc : List (List Int)) (pile : List Int), l = pre ++ (t.flat ++ post) → acc.length ≤ pre.length → pile.length ≤ pre.length →
  Ev (fun k => impl_parts.l0 k (acc ++ outsL t (pre.length : Int)) (pile ++ [(pre.length : Int) + (t.flat.length : Int) - 1]) l (l.length : Int) ((pre ++ t.flat).length : Int)) r → Ev (fun k => impl_parts.l0 k acc pile l (l.length : Int) (pre.length : Int)) r := by
 intro t
 induction t with
 | l n =>
  intro ho pre post acc pile e ha hp h
  have := parts_step l hl pre post n (by simpa [Pt.flat] using e) acc pile [] ha (by simpa using hp) (by simpa [Pt.ok] using ho) r (by
   refine Ev.congr (fun k => ?_) h
   simp only [outsL, Pt.flat, List.length_singleton]
   congr 2 <;> simp)
  simpa using this
 | u n a ih =>
  intro ho pre post acc pile e ha hp h
  have h1 := ih ho.2 pre (n :: post) acc pile (by simpa [Pt.flat] using e) ha hp
  refine h1 ?_
  have ha0 := a.flat_pos
  have := parts_step l hl (pre ++ a.flat) post n (by simpa [Pt.flat] using e) (acc ++ outsL a (pre.length : Int)) pile [(pre.length : Int) + (a.flat.length : Int) - 1] (by simp [outsL_len]; omega) (by simp; omega) (by simpa using ho.1) r (by
   refine Ev.congr (fun k => ?_) h
   simp only [outsL, Pt.flat, List.append_assoc, List.length_append, List.length_singleton]
   congr 3 <;> omega)
  exact this
 | b n x y ihx ihy =>
  intro ho pre post acc pile e ha hp h
  have h1 := ihx ho.2.1 pre (y.flat ++ n :: post) acc pile (by simpa [Pt.flat] using e) ha hp
  refine h1 ?_
  have hx0 := x.flat_pos
  have hy0 := y.flat_pos
  have h2 := ihy ho.2.2 (pre ++ x.flat) (n :: post) (acc ++ outsL x (pre.length : Int)) (pile ++ [(pre.length : Int) + (x.flat.length : Int) - 1]) (by simpa [Pt.flat] using e) (by simp [outsL_len]; omega) (by simp; omega)
  refine h2 ?_
  have := parts_step l hl (pre ++ x.flat ++ y.flat) post n (by simpa [Pt.flat] using e) (acc ++ outsL x (pre.length : Int) ++ outsL y ((pre ++ x.flat).length : Int)) pile [(pre.length : Int) + (x.flat.length : Int) - 1, ((pre ++ x.flat).length : Int) + (y.flat.length : Int) - 1] (by simp [outsL_len]; omega) (by simp; omega) (by simpa using ho.1) r (by
   refine Ev.congr (fun k => ?_) h
   simp only [outsL, Pt.flat, List.append_assoc, List.length_append, List.length_singleton, Int.natCast_add]
   congr 3 <;> omega)
  simpa [List.append_assoc] using this
/-- The parts of a good tree's list. -/
theorem partsT_ev (t : Pt) (ho : t.ok) (hl : t.flat.length ≤ 1000) : Ev (fun k => impl_parts.f k t.flat) (outsL t 0, true) := by
 have := parts_tree t.flat hl (outsL t 0, true) t ho [] [] [] [] (by simp) (by simp) (by simp) (by
  refine Ev.step (f := fun _ => some (outsL t 0, true)) (fun k => ?_) (Ev.now _)
  simp only [impl_parts.l0]
  rw [if_neg (by simp)]
  simp)
 exact Ev.congr (fun k => by unfold impl_parts.f; rfl) this
theorem splitL_ev (n : S49) (ho : arV n.f0 = 0) : Ev (fun k => impl_split.f k [n]) (n.f0, [], []) := by
 have e1 : wrap64 ((([n] : List S49).length : Int) - 1) = ((([] : List S49).length : Nat) : Int) := by rw [wr _ (by simp) (by simp)]; rfl
 have er := rd_root [] [] n [n] ((([] : List S49).length : Nat) : Int) rfl rfl
 unfold impl_split.f
 rw [e1]
 refine Ev.congr (fun k => by rw [if_pos (by simp), if_pos (by simp), er]) (Ev.bind (implAr_ev n.f0) ?_)
 exact Ev.congr (fun k => by rw [ho, if_pos rfl]) (Ev.now _)
theorem splitU_ev (n : S49) (a : Pt) (ho : arV n.f0 = 1) (hl : (Pt.u n a).flat.length ≤ 1000) : Ev (fun k => impl_split.f k (Pt.u n a).flat) (n.f0, a.flat, []) := by
 simp only [Pt.flat] at hl ⊢
 have hl' := hl
 simp only [List.length_append, List.length_singleton] at hl'
 have e1 : wrap64 (((a.flat ++ [n]).length : Int) - 1) = ((a.flat.length : Nat) : Int) := by simp only [List.length_append, List.length_singleton]; rw [wr _ (by omega) (by omega)]; omega
 have er := rd_root a.flat [] n (a.flat ++ [n]) ((a.flat.length : Nat) : Int) rfl rfl
 unfold impl_split.f
 rw [e1]
 refine Ev.congr (fun k => by rw [if_pos (by omega), if_pos (by simp only [List.length_append, List.length_singleton]; omega), er]) (Ev.bind (implAr_ev n.f0) ?_)
 refine Ev.congr (fun k => by rw [ho, if_neg (by omega), if_pos rfl, if_pos (by simp only [List.length_append, List.length_singleton]; omega), Int.toNat_natCast, List.take_left]) (Ev.now _)
theorem splitB_ev (n : S49) (x y : Pt) (ho : (Pt.b n x y).ok) (hl : (Pt.b n x y).flat.length ≤ 1000) : Ev (fun k => impl_split.f k (Pt.b n x y).flat) (n.f0, x.flat, y.flat) := by
 have hp := partsT_ev (Pt.b n x y) ho hl
 have ho' : arV n.f0 = 2 := ho.1
 have hx := x.flat_pos
 have hy := y.flat_pos
 have ef : (Pt.b n x y).flat = (x.flat ++ y.flat) ++ [n] := by simp [Pt.flat]
 rw [ef] at hp hl ⊢
 have hl' := hl
 simp only [List.length_append, List.length_singleton] at hl'
 have e1 : wrap64 ((((x.flat ++ y.flat) ++ [n]).length : Int) - 1) = (((x.flat ++ y.flat).length : Nat) : Int) := by simp only [List.length_append, List.length_singleton]; rw [wr _ (by omega) (by omega)]; omega
 have er := rd_root (x.flat ++ y.flat) [] n ((x.flat ++ y.flat) ++ [n]) (((x.flat ++ y.flat).length : Nat) : Int) rfl rfl
 have eo : outsL (Pt.b n x y) 0 = (outsL x 0 ++ outsL y (x.flat.length : Int)) ++ [[(x.flat.length : Int) - 1, (x.flat.length : Int) + (y.flat.length : Int) - 1]] := by simp [outsL]
 have elen : (outsL x 0 ++ outsL y (x.flat.length : Int)).length = (x.flat ++ y.flat).length := by simp [outsL_len]
 have eL : rd_L1 (outsL (Pt.b n x y) 0) (((x.flat ++ y.flat).length : Nat) : Int) = [(x.flat.length : Int) - 1, (x.flat.length : Int) + (y.flat.length : Int) - 1] := by
  unfold rd_L1
  rw [Int.toNat_natCast, eo, List.getD_eq_getElem?_getD, List.getElem?_append_right (by rw [elen]; omega), elen]
  simp
 have e0 : rd [(x.flat.length : Int) - 1, (x.flat.length : Int) + (y.flat.length : Int) - 1] 0 = (x.flat.length : Int) - 1 := rfl
 have e2 : wrap64 ((x.flat.length : Int) - 1 + 1) = ((x.flat.length : Nat) : Int) := by rw [wr _ (by omega) (by omega)]; omega
 have e3 : (outsL (Pt.b n x y) 0).length = (x.flat ++ y.flat).length + 1 := by rw [eo, List.length_append, elen]; rfl
 unfold impl_split.f
 rw [e1]
 refine Ev.congr (fun k => by rw [if_pos (by omega), if_pos (by simp; omega), er]) (Ev.bind (implAr_ev n.f0) ?_)
 refine Ev.congr (fun k => by rw [ho', if_neg (by omega), if_neg (by omega)]) (Ev.bind hp ?_)
 refine Ev.congr (fun k => by rw [if_pos (by rw [e3]; omega), eL, if_pos (by simp), e0, e2, if_pos (by omega), if_pos (by simp only [List.length_append, List.length_singleton]; omega), if_pos (by simp only [List.length_append]; omega), if_pos (by simp only [List.length_append, List.length_singleton]; omega), Int.toNat_natCast, Int.toNat_natCast, List.take_left, List.drop_left, List.append_assoc, List.take_left]) (Ev.now _)
theorem node_v (op : Int) (l : List (List S49)) (h : l.flatten.length ≤ 1000000) : impl_node.f op l = some (l.flatten ++ [nd op]) := by
 unfold impl_node.f impl_Re.f
 rw [if_pos (by omega), Option.bind_some, if_pos (by omega)]
 rfl
theorem clonePat_l (l : List S49) (hl : l.length ≤ 1000000) (hr : ∀ x ∈ l, x.f1.length ≤ 1048576) : ∀ (d j : Nat), j + d = l.length → Ev (fun k => impl_clonePat.l0 k (l.take j) l (l.length : Int) (j : Int)) l := by
 intro d
 induction d with
 | zero =>
  intro j hj
  refine Ev.step (f := fun _ => some l) (fun k => ?_) (Ev.now _)
  simp only [impl_clonePat.l0]
  rw [if_neg (by omega), List.take_of_length_le (by omega)]
 | succ d ih =>
  intro j hj
  have hj' : j < l.length := by omega
  have e1 : wrap64 ((j : Int) + 1) = ((j + 1 : Nat) : Int) := by rw [wr _ (by omega) (by omega)]; omega
  refine Ev.step (f := fun k => impl_clonePat.l0 k (l.take (j + 1)) l (l.length : Int) ((j + 1 : Nat) : Int)) (fun k => ?_) (ih (j + 1) (by omega))
  simp only [impl_clonePat.l0]
  rw [if_pos (by omega), if_pos (by omega), if_pos (by omega), rdS_I l j hj', clone_v _ (by have := hr _ (List.getElem_mem hj'); omega), Option.bind_some, if_pos (by rw [List.length_take]; omega), e1, List.take_succ_eq_append_getElem hj']
theorem clonePat_ev (l : List S49) (hl : l.length ≤ 1000000) (hr : ∀ x ∈ l, x.f1.length ≤ 1048576) : Ev (fun k => impl_clonePat.f k l) l :=
 Ev.congr (fun k => by unfold impl_clonePat.f; simp) (clonePat_l l hl hr l.length 0 (by omega))
theorem sets_len {t : Pt} (h : t.sets) : ∀ x ∈ t.flat, x.f1.length ≤ 1048576 := by
 intro x hx
 have := h x hx
 simp only [setOk, Bool.and_eq_true] at this
 have := (goodS_facts _ this.1).1
 omega
theorem slices_Equal_int_int_l (a b : List Int) (hab : a.length = b.length) (hl : a.length ≤ 17592186044416) : ∀ (d j : Nat), j + d = a.length → a.take j = b.take j → Ev (fun k => slices_Equal_int_int.l0 k a b (a.length : Int) (j : Int)) (decide (a = b)) := by
 intro d
 induction d with
 | zero =>
  intro j hj ht
  refine Ev.step (f := fun _ => some (decide (a = b))) (fun k => ?_) (Ev.now _)
  simp only [slices_Equal_int_int.l0]
  rw [if_neg (by omega)]
  rw [List.take_of_length_le (by omega), List.take_of_length_le (by omega)] at ht
  simp [ht]
 | succ d ih =>
  intro j hj ht
  by_cases e : a[j]'(by omega) = b[j]'(by omega)
  ·refine Ev.step (f := fun k => slices_Equal_int_int.l0 k a b (a.length : Int) ((j + 1 : Nat) : Int)) (fun k => ?_) (ih (j + 1) (by omega) ?_)
   ·simp only [slices_Equal_int_int.l0]
    rw [if_pos (by omega), if_pos (by omega), if_pos (by omega), if_pos (by omega), rd_at a j (by omega), rd_at b j (by omega), if_pos e, wr _ (by omega) (by omega)]
    simp
   ·rw [List.take_succ_eq_append_getElem (by omega), List.take_succ_eq_append_getElem (by omega), ht, e]
  ·refine Ev.step (f := fun _ => some (decide (a = b))) (fun k => ?_) (Ev.now _)
   simp only [slices_Equal_int_int.l0]
   rw [if_pos (by omega), if_pos (by omega), if_pos (by omega), if_pos (by omega), rd_at a j (by omega), rd_at b j (by omega), if_neg e]
   have : ¬ a = b := fun h => e (by subst h; rfl)
   simp [this]
theorem slices_Equal_int_int_ev (a b : List Int) (hl : a.length ≤ 17592186044416) : Ev (fun k => slices_Equal_int_int.f k a b) (decide (a = b)) := by
 by_cases h : a.length = b.length
 ·refine Ev.congr (f := fun k => slices_Equal_int_int.l0 k a b (a.length : Int) ((0 : Nat) : Int)) (fun k => ?_) (slices_Equal_int_int_l a b h hl a.length 0 (by omega) (by simp))
  unfold slices_Equal_int_int.f
  rw [if_pos (by omega)]
  simp
 ·refine Ev.congr (f := fun _ => some (decide (a = b))) (fun k => ?_) (Ev.now _)
  unfold slices_Equal_int_int.f
  rw [if_neg (by omega)]
  have : ¬ a = b := fun e => h (by rw [e])
  simp [this]
theorem spec_l1Same_l (a b : List Int) (hab : a.length = b.length) (hl : a.length ≤ 17592186044416) : ∀ (d j : Nat), j + d = a.length → a.take j = b.take j → Ev (fun k => spec_l1Same.l0 k a b (a.length : Int) (j : Int)) (decide (a = b)) := by
 intro d
 induction d with
 | zero =>
  intro j hj ht
  refine Ev.step (f := fun _ => some (decide (a = b))) (fun k => ?_) (Ev.now _)
  simp only [spec_l1Same.l0]
  rw [if_neg (by omega)]
  rw [List.take_of_length_le (by omega), List.take_of_length_le (by omega)] at ht
  simp [ht]
 | succ d ih =>
  intro j hj ht
  by_cases e : a[j]'(by omega) = b[j]'(by omega)
  ·refine Ev.step (f := fun k => spec_l1Same.l0 k a b (a.length : Int) ((j + 1 : Nat) : Int)) (fun k => ?_) (ih (j + 1) (by omega) ?_)
   ·simp only [spec_l1Same.l0]
    rw [if_pos (by omega), if_pos (by omega), if_pos (by omega), if_pos (by omega), rd_at a j (by omega), rd_at b j (by omega), if_pos e, wr _ (by omega) (by omega)]
    simp
   ·rw [List.take_succ_eq_append_getElem (by omega), List.take_succ_eq_append_getElem (by omega), ht, e]
  ·refine Ev.step (f := fun _ => some (decide (a = b))) (fun k => ?_) (Ev.now _)
   simp only [spec_l1Same.l0]
   rw [if_pos (by omega), if_pos (by omega), if_pos (by omega), if_pos (by omega), rd_at a j (by omega), rd_at b j (by omega), if_neg e]
   have : ¬ a = b := fun h => e (by subst h; rfl)
   simp [this]
theorem spec_l1Same_ev (a b : List Int) (hl : a.length ≤ 17592186044416) : Ev (fun k => spec_l1Same.f k a b) (decide (a = b)) := by
 by_cases h : a.length = b.length
 ·refine Ev.congr (f := fun k => spec_l1Same.l0 k a b (a.length : Int) ((0 : Nat) : Int)) (fun k => ?_) (spec_l1Same_l a b h hl a.length 0 (by omega) (by simp))
  unfold spec_l1Same.f
  rw [if_pos (by omega)]
  simp
 ·refine Ev.congr (f := fun _ => some (decide (a = b))) (fun k => ?_) (Ev.now _)
  unfold spec_l1Same.f
  rw [if_neg (by omega)]
  have : ¬ a = b := fun e => h (by rw [e])
  simp [this]
/-- Sets that are short. -/
def Sm (l : List S49) : Prop := ∀ x ∈ l, x.f1.length ≤ 1048576
theorem Sm_cons {x : S49} {l : List S49} (h : Sm (x :: l)) : x.f1.length ≤ 1048576 ∧ Sm l := ⟨h x List.mem_cons_self, fun y hy => h y (List.mem_cons_of_mem _ hy)⟩
theorem isTree_Sm {p : List S49} (h : isTree p) : Sm p := by
 obtain ⟨t, _, hs, rfl⟩ := h
 exact sets_len hs
theorem predO_ev (x y : S49) (hx : x.f1.length ≤ 1048576) : Ev (fun k => predO k x y) (sameN x y) := by
 unfold predO sameN
 by_cases h : x.f0 = y.f0
 ·refine Ev.congr (fun k => by rw [if_pos h]) ?_
  have := slices_Equal_int_int_ev x.f1 y.f1 (by omega)
  rwa [show (x.f0 == y.f0 && x.f1 == y.f1) = decide (x.f1 = y.f1) from by rw [beq_iff_eq.2 h, Bool.true_and, Bool.eq_iff_iff]; simp]
 ·refine Ev.congr (fun k => by rw [if_neg h]) ?_
  rw [show (x.f0 == y.f0 && x.f1 == y.f1) = false from by rw [beq_eq_false_iff_ne.2 h, Bool.false_and]]
  exact Ev.now _
theorem samePat_ev : ∀ (a b : List S49), Sm a → Ev (fun k => impl_samePat.f k a b) (sameP a b)
 | [], [], _ => Ev.now _
 | x :: a, y :: b, h => by
  have ih := samePat_ev a b (Sm_cons h).2
  have hp := predO_ev x y (Sm_cons h).1
  unfold impl_samePat.f at ih ⊢
  simp only [sameO, sameP]
  refine Ev.bind hp ?_
  cases sameN x y with
  | true => exact Ev.congr (fun k => by rw [if_pos rfl]) (by simpa using ih)
  | false => exact Ev.congr (fun k => by rw [if_neg (by simp)]) (by simpa using Ev.now false)
 | [], _ :: _, _ => Ev.now _
 | _ :: _, [], _ => Ev.now _
theorem nothing_v : impl_nothing.f = some [nd 2] := rfl
theorem none_v : impl_none.f = some [nd 1] := rfl
theorem isNothing_ev (a : List S49) (h : Sm a) : Ev (fun k => impl_isNothing.f k a) (isNo a) := by
 unfold impl_isNothing.f
 exact Ev.congr (fun k => by rw [nothing_v, Option.bind_some]) (Ev.bind (samePat_ev a [nd 2] h) (Ev.now _))
theorem isNone_ev (a : List S49) (h : Sm a) : Ev (fun k => impl_isNone.f k a) (isNi a) := by
 unfold impl_isNone.f
 exact Ev.congr (fun k => by rw [none_v, Option.bind_some]) (Ev.bind (samePat_ev a [nd 1] h) (Ev.now _))
theorem last_rd (a : List S49) (h : 0 < a.length) : (rd_T49 a ((a.length : Int) - 1)).f0 = lastOp a := by
 obtain ⟨p, n, rfl⟩ : ∃ p n, a = p ++ [n] := ⟨a.dropLast, a.getLast (by intro e; subst e; simp at h), (List.dropLast_concat_getLast _).symm⟩
 rw [lastOp_snoc, rd_root p [] n (p ++ [n]) _ rfl (by simp)]
theorem j4_1 (op : Int) (a b : List S49) (ho : arV op = 1) (hl : a.length ≤ 1000) : Ev (fun k => impl_tidied.j4 k op a b) (a ++ [nd op]) := by
 refine Ev.step (fun k => by simp only [impl_tidied.j4]; rfl) (Ev.bind (implAr_ev op) ?_)
 refine Ev.congr (fun k => by rw [ho, if_pos rfl, node_v _ _ (by simp; omega), Option.bind_some]) ?_
 simpa using Ev.now _
theorem j4_2 (op : Int) (a b : List S49) (ho : arV op = 2) (hl : a.length + b.length ≤ 1000) : Ev (fun k => impl_tidied.j4 k op a b) (a ++ (b ++ [nd op])) := by
 refine Ev.step (fun k => by simp only [impl_tidied.j4]; rfl) (Ev.bind (implAr_ev op) ?_)
 refine Ev.congr (fun k => by rw [ho, if_neg (by omega), node_v _ _ (by simp; omega), Option.bind_some]) ?_
 simpa using Ev.now _
theorem ar1 {op : Int} (h : arV op = 1) : op = 6 ∨ op = 7 := by
 unfold arV at h
 repeat' split at h
 all_goals first | omega | exact .inl ‹_› | exact .inr ‹_›
theorem ar2 {op : Int} (h : arV op = 2) : op = 3 ∨ op = 4 ∨ op = 5 := by
 unfold arV at h
 repeat' split at h
 all_goals first | omega | exact .inl ‹_› | exact .inr (.inl ‹_›) | exact .inr (.inr ‹_›)
theorem implTidied1_ev (op : Int) (a : List S49) (ho : arV op = 1) (ht : isTree a) (hl : a.length ≤ 1000) : Ev (fun k => impl_tidied.f k op a []) (tidied1 op a) := by
 have hp := ht.pos
 have hs := isTree_Sm ht
 have e1 : wrap64 ((a.length : Int) - 1) = (a.length : Int) - 1 := wr _ (by omega) (by omega)
 have hj4 := j4_1 op a [] ho hl
 have hlast := last_rd a hp
 rcases ar1 ho with rfl | rfl
 ·unfold impl_tidied.f tidied1
  rw [if_pos rfl]
  refine Ev.congr (fun k => by rw [if_neg (by omega), if_neg (by omega), if_neg (by omega), if_pos rfl]) (Ev.bind (isNone_ev a hs) ?_)
  have j3t : Ev (fun k => impl_tidied.j3 k 6 a [] true) [nd 1] := Ev.step (f := fun _ => some [nd 1]) (fun k => by simp only [impl_tidied.j3, if_true, nothing_v, none_v, Option.bind_some]) (Ev.now _)
  cases h1 : isNi a with
  | true => exact Ev.congr (fun k => by rw [if_pos rfl]) (by simpa using j3t)
  | false =>
   refine Ev.congr (fun k => by rw [if_neg (by simp)]) (Ev.bind (isNothing_ev a hs) ?_)
   cases h2 : isNo a with
   | true => simpa using j3t
   | false =>
    simp only [Bool.false_eq_true, if_false]
    by_cases h6 : lastOp a = 6
    ·rw [if_pos h6]
     exact Ev.step (f := fun _ => some a) (fun k => by rw [impl_tidied.j3, if_neg (by simp), e1, if_pos (by omega), if_pos (by omega), hlast, if_pos h6]) (Ev.now _)
    ·rw [if_neg h6]
     exact Ev.step (fun k => by rw [impl_tidied.j3, if_neg (by simp), e1, if_pos (by omega), if_pos (by omega), hlast, if_neg h6]) hj4
 ·unfold impl_tidied.f tidied1
  rw [if_neg (show ¬ (7 : Int) = 6 by omega)]
  by_cases h7 : lastOp a = 7
  ·rw [if_pos h7]
   refine Ev.congr (fun k => by rw [if_neg (by omega), if_neg (by omega), if_neg (by omega), if_neg (by omega), if_pos rfl, e1, if_pos (by omega), if_pos (by omega), hlast, if_pos h7, if_pos (by omega)]) ?_
   rw [List.dropLast_eq_take, show a.length - 1 = ((a.length : Int) - 1).toNat from by omega]
   exact Ev.now _
  ·rw [if_neg h7]
   exact Ev.congr (fun k => by rw [if_neg (by omega), if_neg (by omega), if_neg (by omega), if_neg (by omega), if_pos rfl, e1, if_pos (by omega), if_pos (by omega), hlast, if_neg h7]) hj4
theorem implTidied2_ev (op : Int) (a b : List S49) (ho : arV op = 2) (ha : Sm a) (hb : Sm b) (hl : a.length + b.length ≤ 1000) : Ev (fun k => impl_tidied.f k op a b) (tidied2 op a b) := by
 have hj4 := j4_2 op a b ho hl
 rcases ar2 ho with rfl | rfl | rfl
 ·unfold impl_tidied.f tidied2
  rw [if_pos rfl]
  refine Ev.congr (fun k => by rw [if_pos rfl]) (Ev.bind (isNothing_ev a ha) ?_)
  have jt : Ev (fun k => impl_tidied.j0 k 3 a b true) [nd 2] := Ev.step (f := fun _ => some [nd 2]) (fun k => by simp only [impl_tidied.j0, if_true, nothing_v, none_v, Option.bind_some]) (Ev.now _)
  cases h1 : isNo a with
  | true => exact Ev.congr (fun k => by rw [if_pos rfl]) (by simpa using jt)
  | false =>
   refine Ev.congr (fun k => by rw [if_neg (by simp)]) (Ev.bind (isNothing_ev b hb) ?_)
   cases h2 : isNo b with
   | true => simpa using jt
   | false =>
    simp only [Bool.false_eq_true, if_false]
    refine Ev.step (fun k => by rw [impl_tidied.j0, if_neg (by simp)]) (Ev.bind (isNone_ev a ha) ?_)
    cases h3 : isNi a with
    | true => exact Ev.congr (fun k => by rw [if_pos rfl]) (by simpa using Ev.now b)
    | false =>
     refine Ev.congr (fun k => by rw [if_neg (by simp)]) (Ev.bind (isNone_ev b hb) ?_)
     cases h4 : isNi b with
     | true => exact Ev.congr (fun k => by rw [if_pos rfl]) (by simpa using Ev.now a)
     | false => exact Ev.congr (fun k => by rw [if_neg (by simp)]) (by simpa using hj4)
 ·unfold impl_tidied.f tidied2
  rw [if_neg (show ¬ (4 : Int) = 3 by omega), if_pos (show (4 : Int) = 4 from rfl)]
  refine Ev.congr (fun k => by rw [if_neg (by omega), if_pos rfl]) (Ev.bind (isNothing_ev a ha) ?_)
  have jt : Ev (fun k => impl_tidied.j1 k 4 a b true) b := Ev.step (f := fun _ => some b) (fun k => by simp only [impl_tidied.j1, if_true]) (Ev.now _)
  cases h1 : isNo a with
  | true => exact Ev.congr (fun k => by rw [if_pos rfl]) (by simpa using jt)
  | false =>
   refine Ev.congr (fun k => by rw [if_neg (by simp)]) (Ev.bind (samePat_ev a b ha) ?_)
   cases h2 : sameP a b with
   | true => simpa using jt
   | false =>
    simp only [Bool.false_eq_true, if_false]
    refine Ev.step (fun k => by rw [impl_tidied.j1, if_neg (by simp)]) (Ev.bind (isNothing_ev b hb) ?_)
    cases h3 : isNo b with
    | true => exact Ev.congr (fun k => by rw [if_pos rfl]) (by simpa using Ev.now a)
    | false => exact Ev.congr (fun k => by rw [if_neg (by simp)]) (by simpa using hj4)
 ·unfold impl_tidied.f tidied2
  rw [if_neg (show ¬ (5 : Int) = 3 by omega), if_neg (show ¬ (5 : Int) = 4 by omega)]
  refine Ev.congr (fun k => by rw [if_neg (by omega), if_neg (by omega), if_pos rfl]) (Ev.bind (isNothing_ev a ha) ?_)
  have jt : Ev (fun k => impl_tidied.j2 k 5 a b true) [nd 2] := Ev.step (f := fun _ => some [nd 2]) (fun k => by simp only [impl_tidied.j2, if_true, nothing_v, none_v, Option.bind_some]) (Ev.now _)
  cases h1 : isNo a with
  | true => exact Ev.congr (fun k => by rw [if_pos rfl]) (by simpa using jt)
  | false =>
   refine Ev.congr (fun k => by rw [if_neg (by simp)]) (Ev.bind (isNothing_ev b hb) ?_)
   cases h2 : isNo b with
   | true => simpa using jt
   | false =>
    simp only [Bool.false_eq_true, if_false]
    refine Ev.step (fun k => by rw [impl_tidied.j2, if_neg (by simp)]) (Ev.bind (samePat_ev a b ha) ?_)
    cases h3 : sameP a b with
    | true => exact Ev.congr (fun k => by rw [if_pos rfl]) (by simpa using Ev.now a)
    | false => exact Ev.congr (fun k => by rw [if_neg (by simp)]) (by simpa using hj4)
theorem implTidy_ev : ∀ (t : Pt), t.ok → t.sets → t.flat.length ≤ 500 → Ev (fun k => impl_tidy.f k t.flat) t.tid
 | .l n, ho, _, _ => by
  have ho' : arV n.f0 = 0 := ho
  refine Ev.step (fun k => by simp only [impl_tidy.f]; rfl) (Ev.bind (splitL_ev n ho') (Ev.bind (implAr_ev n.f0) ?_))
  exact Ev.congr (fun k => by rw [ho', if_pos rfl]) (Ev.now (Pt.l n).flat)
 | .u n a, ho, hs, hl => by
  have ho' : arV n.f0 = 1 := ho.1
  have hl' := hl
  simp only [Pt.flat, List.length_append, List.length_singleton] at hl'
  have hsa := (Pt.sets_u.1 hs).1
  have hta := a.tid_len ho.2 hsa
  refine Ev.step (fun k => by simp only [impl_tidy.f]; rfl) (Ev.bind (splitU_ev n a ho' (by omega)) (Ev.bind (implAr_ev n.f0) ?_))
  refine Ev.congr (fun k => by rw [ho', if_neg (by omega), if_pos rfl]) (Ev.bind (implTidy_ev a ho.2 hsa (by omega)) ?_)
  exact Ev.bind (implTidied1_ev n.f0 a.tid ho' (a.tid_tree ho.2 hsa) (by omega)) (Ev.now _)
 | .b n x y, ho, hs, hl => by
  have ho' : arV n.f0 = 2 := ho.1
  have hl' := hl
  simp only [Pt.flat, List.length_append, List.length_singleton] at hl'
  obtain ⟨hsx, hsy, _⟩ := Pt.sets_b.1 hs
  have htx := x.tid_len ho.2.1 hsx
  have hty := y.tid_len ho.2.2 hsy
  refine Ev.step (fun k => by simp only [impl_tidy.f]; rfl) (Ev.bind (splitB_ev n x y ho (by omega)) (Ev.bind (implAr_ev n.f0) ?_))
  refine Ev.congr (fun k => by rw [ho', if_neg (by omega), if_neg (by omega)]) (Ev.bind (implTidy_ev x ho.2.1 hsx (by omega)) (Ev.bind (implTidy_ev y ho.2.2 hsy (by omega)) ?_))
  exact Ev.bind (implTidied2_ev n.f0 x.tid y.tid ho' (isTree_Sm (x.tid_tree ho.2.1 hsx)) (isTree_Sm (y.tid_tree ho.2.2 hsy)) (by omega)) (Ev.now _)
theorem sameP_self (a : List S49) : sameP a a = true := sameP_eq.2 rfl
theorem sameP_ne {a b : List S49} (h : ¬ a = b) : sameP a b = false := by
 cases e : sameP a b with
 | false => rfl
 | true => exact absurd (sameP_eq.1 e) h
theorem spec_l5Same_l (a b : List S49) (hab : a.length = b.length) (hl : a.length ≤ 1000000) (hs : Sm a) : ∀ (d j : Nat), j + d = a.length → a.take j = b.take j → Ev (fun k => spec_l5Same.l0 k a b (a.length : Int) (j : Int)) (sameP a b) := by
 intro d
 induction d with
 | zero =>
  intro j hj ht
  refine Ev.step (f := fun _ => some (sameP a b)) (fun k => ?_) (Ev.now _)
  simp only [spec_l5Same.l0]
  rw [if_neg (by omega)]
  rw [List.take_of_length_le (by omega), List.take_of_length_le (by omega)] at ht
  rw [ht, sameP_self]
 | succ d ih =>
  intro j hj ht
  have hja : j < a.length := by omega
  have hjb : j < b.length := by omega
  have hsj := hs _ (List.getElem_mem hja)
  have hne : a[j] ≠ b[j] → ¬ a = b := fun h e => h (by subst e; rfl)
  by_cases e : a[j].f0 = b[j].f0
  ·refine Ev.step (f := fun k => (spec_l1Same.f k a[j].f1 b[j].f1).bind fun t => if t = true then spec_l5Same.l0 k a b (a.length : Int) ((j + 1 : Nat) : Int) else some false) (fun k => ?_) (Ev.bind (spec_l1Same_ev a[j].f1 b[j].f1 (by omega)) ?_)
   ·simp only [spec_l5Same.l0]
    rw [if_pos (by omega), if_pos (by omega), if_pos (by omega), if_pos (by omega), rdS_I a j hja, rdS_I b j hjb, if_pos e, wr _ (by omega) (by omega)]
    simp
   ·by_cases e2 : a[j].f1 = b[j].f1
    ·have e3 : a[j] = b[j] := by
      cases ha : a[j]; cases hb : b[j]
      rw [ha, hb] at e e2
      simp only at e e2
      rw [e, e2]
     refine Ev.congr (fun k => by rw [if_pos (by simp [e2])]) (ih (j + 1) (by omega) ?_)
     rw [List.take_succ_eq_append_getElem hja, List.take_succ_eq_append_getElem hjb, ht, e3]
    ·have : ¬ a = b := hne (fun h => e2 (by rw [h]))
     refine Ev.congr (fun k => by rw [if_neg (by simp [e2])]) ?_
     rw [sameP_ne this]
     exact Ev.now _
  ·have : ¬ a = b := hne (fun h => e (by rw [h]))
   refine Ev.step (f := fun _ => some (sameP a b)) (fun k => ?_) (Ev.now _)
   simp only [spec_l5Same.l0]
   rw [if_pos (by omega), if_pos (by omega), if_pos (by omega), if_pos (by omega), rdS_I a j hja, rdS_I b j hjb, if_neg e, sameP_ne this]
theorem spec_l5Same_ev (a b : List S49) (hl : a.length ≤ 1000000) (hs : Sm a) : Ev (fun k => spec_l5Same.f k a b) (sameP a b) := by
 by_cases h : a.length = b.length
 ·refine Ev.congr (f := fun k => spec_l5Same.l0 k a b (a.length : Int) ((0 : Nat) : Int)) (fun k => ?_) (spec_l5Same_l a b h hl hs a.length 0 (by omega) (by simp))
  unfold spec_l5Same.f
  rw [if_pos (by omega)]
  simp
 ·refine Ev.congr (f := fun _ => some (sameP a b)) (fun k => ?_) (Ev.now _)
  unfold spec_l5Same.f
  rw [if_neg (by omega)]
  have : ¬ a = b := fun e => h (by rw [e])
  rw [sameP_ne this]
theorem rd_one (x : S49) : rd_T49 [x] 0 = x := rd_root [] [] x [x] 0 rfl (by simp)
theorem isNo_one (x : S49) : isNo [x] = decide (x.f0 = 2 ∧ x.f1 = []) := by
 obtain ⟨a, b⟩ := x
 rw [Bool.eq_iff_iff]
 simp [isNo, sameP, sameN, nd]
theorem isNi_one (x : S49) : isNi [x] = decide (x.f0 = 1 ∧ x.f1 = []) := by
 obtain ⟨a, b⟩ := x
 rw [Bool.eq_iff_iff]
 simp [isNi, sameP, sameN, nd]
theorem specIsNone_v (a : List S49) : spec_l5IsNone.f a = some (isNo a) := by
 unfold spec_l5IsNone.f
 match a with
 | [] => rfl
 | [x] =>
  rw [if_pos (by simp), if_pos (by simp), rd_one, isNo_one]
  by_cases h : x.f0 = 2
  ·rw [if_pos h]
   congr 1
   rw [Bool.eq_iff_iff]
   simp [h]
  ·rw [if_neg h]; simp [h]
 | x :: y :: l =>
  rw [if_neg (by simp; omega)]
  simp [isNo, sameP, sameN]
theorem specIsNil_v (a : List S49) (ht : isTree a) : spec_l5IsNil.f a = some (isNi a) := by
 unfold spec_l5IsNil.f
 match a with
 | [] => rfl
 | [x] =>
  have hx : setOk x = true := by obtain ⟨t, _, hs, e⟩ := ht; exact hs x (by rw [← e]; simp)
  rw [if_pos (by simp), if_pos (by simp), rd_one, isNi_one]
  congr 1
  rw [Bool.eq_iff_iff]
  simp
  exact fun h => set_none hx (by omega)
 | x :: y :: l =>
  rw [if_neg (by simp; omega)]
  simp [isNi, sameP, sameN]
theorem specNone_v : spec_l5None.f = some [nd 2] := rfl
theorem twoV_eq (op : Int) (a b : List S49) (ho : arV op = 2) : twoV op (isNo a) (isNo b) (isNi a) (isNi b) (sameP a b) a b = some (tidied2 op a b) := by
 unfold twoV tidied2
 rcases ar2 ho with rfl | rfl | rfl
 ·rw [if_pos rfl, if_pos rfl, List.append_assoc]; rfl
 ·rw [if_neg (show ¬ (4 : Int) = 3 by omega), if_pos (show (4 : Int) = 4 from rfl), if_neg (show ¬ (4 : Int) = 3 by omega), if_pos (show (4 : Int) = 4 from rfl), List.append_assoc]
  by_cases h : isNo a = true
  ·rw [if_pos h, if_pos h]
  ·rw [if_neg h, if_neg h]
   by_cases h2 : sameP a b = true
   ·have e := sameP_eq.1 h2
    rw [if_pos h2, if_pos h2]
    subst e
    rw [if_neg h]
   ·rw [if_neg h2, if_neg h2]; rfl
 ·rw [if_neg (show ¬ (5 : Int) = 3 by omega), if_neg (show ¬ (5 : Int) = 4 by omega), if_pos (show (5 : Int) = 5 from rfl), if_neg (show ¬ (5 : Int) = 3 by omega), if_neg (show ¬ (5 : Int) = 4 by omega), List.append_assoc]; rfl
theorem specTwo_ev (op : Int) (a b : List S49) (ho : arV op = 2) (ha : isTree a) (hb : isTree b) (hl : a.length + b.length ≤ 1000) : Ev (fun k => spec_l5Two.f k op a b) (tidied2 op a b) := by
 have hsa := isTree_Sm ha
 unfold spec_l5Two.f
 have h1 : Ev (fun _ => spec_l5IsNone.f a) (isNo a) := by rw [specIsNone_v]; exact Ev.now _
 have h2 : Ev (fun _ => spec_l5IsNone.f b) (isNo b) := by rw [specIsNone_v]; exact Ev.now _
 have h3 : Ev (fun _ => spec_l5IsNil.f a) (isNi a) := by rw [specIsNil_v a ha]; exact Ev.now _
 have h4 : Ev (fun _ => spec_l5IsNil.f b) (isNi b) := by rw [specIsNil_v b hb]; exact Ev.now _
 have h5 : Ev (fun _ => spec_l5None.f) [nd 2] := by rw [specNone_v]; exact Ev.now _
 refine Ev.bind h1 (Ev.bind h2 (Ev.bind h3 (Ev.bind h4 (Ev.bind (spec_l5Same_ev a b (by omega) hsa) (Ev.bind (specOwn_ev a (by omega) hsa) (Ev.bind h5 ?_))))))
 refine Ev.congr (fun k => by rw [if_pos (by omega), twoV_eq op a b ho, Option.bind_some, if_pos rfl, if_pos (by simp [nd])]) (Ev.now _)
theorem tidy1O_eq (op : Int) (a : List S49) (ho : arV op = 1) (hp : 0 < a.length) : tidy1O op (isNi a) (isNo a) a = some (tidied1 op a) := by
 unfold tidy1O tidied1 lastO
 rw [last_rd a hp]
 rcases ar1 ho with rfl | rfl
 ·rw [if_pos rfl, if_pos rfl]; rfl
 ·rw [if_neg (show ¬ (7 : Int) = 6 by omega), if_pos (show (7 : Int) = 7 from rfl), if_neg (show ¬ (7 : Int) = 6 by omega), List.dropLast_eq_take]; rfl
theorem specTidy_ev (L : List S49) (hL : L.length ≤ 1000) (hr : ∀ x ∈ L, x.f1.length ≤ 1048576) : ∀ (t : Pt), t.ok → t.sets → ∀ (pre post : List S49), L = pre ++ (t.flat ++ post) → Ev (fun k => spec_l5Tidy.f k L ((pre.length : Int) + (t.flat.length : Int) - 1)) t.tid := by
 intro t
 induction t with
 | l n =>
  intro ho hs pre post e
  have ho' : arV n.f0 = 0 := ho
  have e2 : L = pre ++ (n :: post) := by simpa [Pt.flat] using e
  have hl : pre.length < L.length := by rw [e2]; simp
  have ei : (pre.length : Int) + ((Pt.l n).flat.length : Int) - 1 = (pre.length : Int) := by simp only [Pt.flat, List.length_singleton]; omega
  have ew : (pre.length : Int) + 1 = ((pre.length + 1 : Nat) : Int) := by omega
  rw [ei]
  refine Ev.step (fun k => by rw [spec_l5Tidy.f, if_pos (by omega), if_pos (by omega), rd_root pre post n L _ e2 rfl]) (Ev.bind (specAr_ev n.f0) ?_)
  exact Ev.congr (fun k => by rw [ho', if_pos rfl, ew, cut_one pre post n L e2]) (specOwn_ev [n] (by simp) (fun x hx => by rw [List.mem_singleton] at hx; subst hx; exact hr x (by rw [e2]; simp)))
 | u n a ih =>
  intro ho hs pre post e
  have ho' : arV n.f0 = 1 := ho.1
  have hsa := (Pt.sets_u.1 hs).1
  have ht := a.tid_tree ho.2 hsa
  have htl := a.tid_len ho.2 hsa
  have e2 : L = (pre ++ a.flat) ++ (n :: post) := by simpa [Pt.flat] using e
  have hl : (pre ++ a.flat).length < L.length := by rw [e2]; simp
  have ha := a.flat_pos
  have ei : (pre.length : Int) + ((Pt.u n a).flat.length : Int) - 1 = ((pre ++ a.flat).length : Int) := by simp only [Pt.flat, List.length_append, List.length_singleton]; omega
  have ew : ((pre ++ a.flat).length : Int) - 1 = (pre.length : Int) + (a.flat.length : Int) - 1 := by simp
  have hla : a.tid.length ≤ 1000 := by simp only [List.length_append] at hl; omega
  have hpt := ht.pos
  rw [ei]
  refine Ev.step (fun k => by rw [spec_l5Tidy.f, if_pos (by omega), if_pos (by omega), rd_root (pre ++ a.flat) post n L _ e2 rfl]) (Ev.bind (specAr_ev n.f0) ?_)
  refine Ev.congr (fun k => by rw [ho', if_neg (by omega), if_neg (by omega), ew]) (Ev.bind (ih ho.2 hsa pre (n :: post) (by simpa [Pt.flat] using e)) ?_)
  exact Ev.congr (fun k => by rw [if_pos hpt, if_pos (by omega), specIsNil_v _ ht, specIsNone_v, Option.bind_some, Option.bind_some, tidy1O_eq _ _ ho' hpt]) (Ev.now (tidied1 n.f0 a.tid))
 | b n x y ihx ihy =>
  intro ho hs pre post e
  have ho' : arV n.f0 = 2 := ho.1
  obtain ⟨hsx, hsy, _⟩ := Pt.sets_b.1 hs
  have htx := x.tid_tree ho.2.1 hsx
  have hty := y.tid_tree ho.2.2 hsy
  have hlx := x.tid_len ho.2.1 hsx
  have hly := y.tid_len ho.2.2 hsy
  have e2 : L = (pre ++ (x.flat ++ y.flat)) ++ (n :: post) := by simpa [Pt.flat] using e
  have hl : (pre ++ (x.flat ++ y.flat)).length < L.length := by rw [e2]; simp
  have hx := x.flat_pos
  have hy := y.flat_pos
  have ei : (pre.length : Int) + ((Pt.b n x y).flat.length : Int) - 1 = ((pre ++ (x.flat ++ y.flat)).length : Int) := by simp only [Pt.flat, List.length_append, List.length_singleton]; omega
  have hl2 := hl
  simp only [List.length_append] at hl2
  have ew : ((pre ++ (x.flat ++ y.flat)).length : Int) - 1 = ((pre ++ x.flat).length : Int) + (y.flat.length : Int) - 1 := by simp; omega
  have hf : Ev (fun k => spec_l5First.f k L ((pre ++ (x.flat ++ y.flat)).length : Int)) ((pre.length : Int) + (x.flat.length : Int) - 1) := by
   have := first_ev pre post n x y ho.2.2 (by simp only [List.length_append, List.length_cons] at hl ⊢; have := congrArg List.length e; simp only [Pt.flat, List.length_append, List.length_singleton] at this; omega)
   refine Ev.congr (fun k => ?_) this
   rw [e]
   simp [Pt.flat]
   congr 1
   omega
  have hpx := ihx ho.2.1 hsx pre (y.flat ++ n :: post) (by simpa [Pt.flat] using e)
  have hpy := ihy ho.2.2 hsy (pre ++ x.flat) (n :: post) (by simpa [Pt.flat] using e)
  rw [← ew] at hpy
  rw [ei]
  refine Ev.step (fun k => by rw [spec_l5Tidy.f, if_pos (by omega), if_pos (by omega), rd_root (pre ++ (x.flat ++ y.flat)) post n L _ e2 rfl]) (Ev.bind (specAr_ev n.f0) ?_)
  exact Ev.congr (fun k => by rw [ho', if_neg (by omega), if_pos rfl]) (Ev.bind hf (Ev.bind hpx (Ev.bind hpy (specTwo_ev n.f0 x.tid y.tid ho' htx hty (by omega)))))
/-- The spans of a set. -/
def spansV : List Int → List S92
 | a :: b :: r => ⟨a, b⟩ :: spansV r
 | _ => []

theorem spansOf_l (l : List Int) (hl : l.length ≤ 4398046511104) : ∀ (d j : Nat) (acc : List S92), l.length ≤ j + 2 * d → j ≤ l.length + 1 → acc.length ≤ j → Ev (fun k => impl_spansOf.l0 k l acc (j : Int)) (acc ++ spansV (l.drop j)) := by
 intro d
 induction d with
 | zero =>
  intro j acc hj hj2 ha
  refine Ev.step (f := fun _ => some (acc ++ spansV (l.drop j))) (fun k => ?_) (Ev.now _)
  simp only [impl_spansOf.l0]
  rw [wr _ (by omega) (by omega), if_neg (by omega), List.drop_of_length_le (by omega)]
  simp [spansV]
 | succ d ih =>
  intro j acc hj hj2 ha
  have e1 : wrap64 ((j : Int) + 1) = ((j + 1 : Nat) : Int) := by rw [wr _ (by omega) (by omega)]; omega
  have e2 : wrap64 ((j : Int) + 2) = ((j + 2 : Nat) : Int) := by rw [wr _ (by omega) (by omega)]; omega
  by_cases h : j + 1 < l.length
  ·refine Ev.step (f := fun k => impl_spansOf.l0 k l (acc ++ [(⟨l[j]'(by omega), l[j + 1]'(by omega)⟩ : S92)]) ((j + 2 : Nat) : Int)) (fun k => ?_) ?_
   ·simp only [impl_spansOf.l0]
    rw [e1, if_pos (by omega), if_pos (by omega), if_pos (by omega), if_pos (by omega), if_pos (by omega), rd_at l j (by omega), rd_at l (j + 1) (by omega), e2]
   ·have := ih (j + 2) (acc ++ [(⟨l[j]'(by omega), l[j + 1]'(by omega)⟩ : S92)]) (by omega) (by omega) (by simp; omega)
    rw [drop_at l j (by omega), drop_at l (j + 1) (by omega)]
    simpa only [spansV, List.append_assoc, List.singleton_append] using this
  ·refine Ev.step (f := fun _ => some (acc ++ spansV (l.drop j))) (fun k => ?_) (Ev.now _)
   simp only [impl_spansOf.l0]
   rw [e1, if_neg (by omega)]
   have : spansV (l.drop j) = [] := by
    by_cases z : j < l.length
    ·rw [drop_at l j z, List.drop_of_length_le (by omega)]
     rfl
    ·rw [List.drop_of_length_le (by omega)]
     rfl
   rw [this, List.append_nil]

theorem spansOf_ev (l : List Int) (hl : l.length ≤ 4398046511104) : Ev (fun k => impl_spansOf.f k l) (spansV l) :=
 Ev.congr (fun k => by unfold impl_spansOf.f; rfl) (by simpa using spansOf_l l hl (l.length) 0 [] (by omega) (by omega) (by simp))

/-- Is a number in a set? -/
def memV (r : Int) : List Int → Bool
 | a :: b :: t => inB a b r || memV r t
 | _ => false

theorem specIn_l (l : List Int) (r : Int) (hl : l.length ≤ 4398046511104) : ∀ (d j : Nat), j + 2 * d = l.length → Ev (fun k => spec_l4In.l0 k l r (j : Int)) (memV r (l.drop j)) := by
 intro d
 induction d with
 | zero =>
  intro j hj
  refine Ev.step (f := fun _ => some (memV r (l.drop j))) (fun k => ?_) (Ev.now _)
  simp only [spec_l4In.l0]
  rw [if_neg (by omega), List.drop_of_length_le (by omega)]
  rfl
 | succ d ih =>
  intro j hj
  have e1 : wrap64 ((j : Int) + 1) = ((j + 1 : Nat) : Int) := by rw [wr _ (by omega) (by omega)]; omega
  have e2 : wrap64 ((j : Int) + 2) = ((j + 2 : Nat) : Int) := by rw [wr _ (by omega) (by omega)]; omega
  have hd : l.drop j = l[j]'(by omega) :: l[j + 1]'(by omega) :: l.drop (j + 2) := by rw [drop_at l j (by omega), drop_at l (j + 1) (by omega)]
  rw [hd, memV]
  cases h : inB (l[j]'(by omega)) (l[j + 1]'(by omega)) r with
  | true =>
   refine Ev.step (f := fun _ => some true) (fun k => ?_) (by simpa using Ev.now true)
   simp only [spec_l4In.l0]
   rw [e1, if_pos (by omega), if_pos (by omega), if_pos (by omega), if_pos (by omega), rd_at l j (by omega), rd_at l (j + 1) (by omega), in_s, h]
   simp
  | false =>
   refine Ev.step (f := fun k => spec_l4In.l0 k l r ((j + 2 : Nat) : Int)) (fun k => ?_) (by simpa using ih (j + 2) (by omega))
   simp only [spec_l4In.l0]
   rw [e1, if_pos (by omega), if_pos (by omega), if_pos (by omega), if_pos (by omega), rd_at l j (by omega), rd_at l (j + 1) (by omega), in_s, h, e2]
   simp

theorem specIn_ev (l : List Int) (r : Int) (hl : l.length ≤ 4398046511104) (he : l.length % 2 = 0) : Ev (fun k => spec_l4In.f k l r) (memV r l) :=
 Ev.congr (fun k => by unfold spec_l4In.f; rfl) (by simpa using specIn_l l r hl (l.length / 2) 0 (by omega))

theorem inSpans_mem (r : Int) (l : List Int) : inSpans r (spansV l) = memV r l := by
 match l with
 | [] => rfl
 | [_] => rfl
 | a :: b :: t =>
  have ih := inSpans_mem r t
  unfold inSpans at ih ⊢
  simp only [spansV, memV, List.any_cons, ih]
  rfl
termination_by l.length

theorem implIn_ev (l : List Int) (r : Int) (hl : l.length ≤ 4398046511104) : Ev (fun k => impl_inSet.f k l r) (memV r l) := by
 unfold impl_inSet.f
 refine Ev.bind (spansOf_ev l hl) ?_
 rw [inSpans_mem]
 exact Ev.now _

/-- How a node's kids stand. -/
def NodeP (L : List S49) (k : Nat) (ks : List Int) : Prop :=
 (arV (rd_T49 L (k : Int)).f0 = 0 ∧ ks = []) ∨ (arV (rd_T49 L (k : Int)).f0 = 1 ∧ 1 ≤ k ∧ ks = [(k : Int) - 1]) ∨ (arV (rd_T49 L (k : Int)).f0 = 2 ∧ 1 ≤ k ∧ ∃ f : Nat, f < k ∧ ks = [(f : Int), (k : Int) - 1] ∧ Ev (fun q => spec_l5First.f q L (k : Int)) (f : Int))
theorem rdS_midL (L pre post : List S49) (n : S49) (e : L = pre ++ n :: post) : rd_T49 L (pre.length : Int) = n := by
 subst e; unfold rd_T49; simp [List.getD_eq_getElem?_getD]
theorem getD_l {α : Type} (xs ys : List (List α)) (j : Nat) (h : j < xs.length) : (xs ++ ys).getD j [] = xs.getD j [] := by
 rw [List.getD_eq_getElem?_getD, List.getD_eq_getElem?_getD, List.getElem?_append_left h]
theorem getD_r {α : Type} (xs ys : List (List α)) (j : Nat) (h : xs.length ≤ j) : (xs ++ ys).getD j [] = ys.getD (j - xs.length) [] := by
 rw [List.getD_eq_getElem?_getD, List.getD_eq_getElem?_getD, List.getElem?_append_right h]
theorem nodeP_tree (L : List S49) (hL : L.length ≤ 1000) : ∀ t : Pt, t.ok → ∀ pre post, L = pre ++ (t.flat ++ post) → ∀ j, j < t.flat.length → NodeP L (pre.length + j) ((outsL t (pre.length : Int)).getD j [])
 | .l n, h, pre, post, e, j, hj => by
  simp only [Pt.flat, List.length_singleton] at hj
  obtain rfl : j = 0 := by omega
  refine Or.inl ⟨?_, by simp [outsL]⟩
  rw [Nat.add_zero, rdS_midL L pre post n (by simpa [Pt.flat] using e)]; exact h
 | .u n a, h, pre, post, e, j, hj => by
  simp only [Pt.flat, List.length_append, List.length_singleton] at hj
  simp only [outsL]
  by_cases g : j < a.flat.length
  ·have := nodeP_tree L hL a h.2 pre (n :: post) (by simpa [Pt.flat] using e) j g
   rwa [getD_l _ _ _ (by rw [outsL_len]; exact g)]
  ·obtain rfl : j = a.flat.length := by omega
   have hp := a.flat_pos
   rw [getD_r _ _ _ (by rw [outsL_len]; omega), outsL_len, Nat.sub_self]
   refine Or.inr (Or.inl ⟨?_, by omega, ?_⟩)
   ·have := rdS_midL L (pre ++ a.flat) post n (by simpa [Pt.flat] using e)
    rw [List.length_append] at this
    rw [this]; exact h.1
   ·show [_] = [_]; congr 1
 | .b n x y, h, pre, post, e, j, hj => by
  simp only [Pt.flat, List.length_append, List.length_singleton] at hj
  simp only [outsL]
  have hpx := x.flat_pos
  have hpy := y.flat_pos
  by_cases g : j < x.flat.length
  ·have := nodeP_tree L hL x h.2.1 pre (y.flat ++ n :: post) (by simpa [Pt.flat] using e) j g
   rwa [getD_l _ _ _ (by rw [outsL_len]; exact g)]
  ·rw [getD_r _ _ _ (by rw [outsL_len]; omega), outsL_len]
   by_cases g2 : j - x.flat.length < y.flat.length
   ·have := nodeP_tree L hL y h.2.2 (pre ++ x.flat) (n :: post) (by simpa [Pt.flat] using e) (j - x.flat.length) g2
    rw [getD_l _ _ _ (by rw [outsL_len]; exact g2)]
    rw [List.length_append, show pre.length + x.flat.length + (j - x.flat.length) = pre.length + j from by omega, Int.natCast_add] at this
    exact this
   ·have e2 : j - x.flat.length = y.flat.length := by omega
    rw [getD_r _ _ _ (by rw [outsL_len]; omega), outsL_len, e2, Nat.sub_self]
    have ej : pre.length + j = pre.length + x.flat.length + y.flat.length := by omega
    have hlen : (pre ++ (x.flat ++ (y.flat ++ n :: post))).length ≤ 1000000 := by
     have : L = pre ++ (x.flat ++ (y.flat ++ n :: post)) := by simpa [Pt.flat] using e
     rw [← this]; omega
    refine Or.inr (Or.inr ⟨?_, by omega, pre.length + x.flat.length - 1, by omega, ?_, ?_⟩)
    ·have := rdS_midL L (pre ++ x.flat ++ y.flat) post n (by simpa [Pt.flat] using e)
     rw [List.length_append, List.length_append] at this
     rw [ej, this]; exact h.1
    ·show [_, _] = [_, _]
     rw [show ((pre.length + x.flat.length - 1 : Nat) : Int) = (pre.length : Int) + (x.flat.length : Int) - 1 from by omega, show ((pre.length + j : Nat) : Int) - 1 = (pre.length : Int) + (x.flat.length : Int) + (y.flat.length : Int) - 1 from by omega]
    ·have := first_ev pre post n x y h.2.2 hlen
     rw [show ((pre.length + j : Nat) : Int) = (pre.length : Int) + (x.flat.length : Int) + (y.flat.length : Int) from by omega, show ((pre.length + x.flat.length - 1 : Nat) : Int) = (pre.length : Int) + (x.flat.length : Int) - 1 from by omega, show L = pre ++ (x.flat ++ (y.flat ++ n :: post)) from by simpa [Pt.flat] using e]
     exact this
theorem arV_0 {a : Int} (h : arV a = 0) : a = 1 ∨ a = 2 := by
 unfold arV at h
 repeat' split at h
 all_goals omega
theorem arV_1 {a : Int} (h : arV a = 1) : a = 6 ∨ a = 7 := by
 unfold arV at h
 repeat' split at h
 all_goals omega
theorem arV_2 {a : Int} (h : arV a = 2) : a = 3 ∨ a = 4 ∨ a = 5 := by
 unfold arV at h
 repeat' split at h
 all_goals omega
theorem kidsOk_of {L : List S49} {parts : List (List Int)} {k : Nat} (h : NodeP L k (parts.getD k [])) : KidsOk L parts k := by
 unfold KidsOk
 rcases h with ⟨h, e⟩ | ⟨h, h1, e⟩ | ⟨h, h1, f, hf, e, _⟩
 ·rw [e]
  rcases arV_0 h with g | g
  ·exact ⟨Or.inl g, fun x hx => by simp at hx⟩
  ·exact ⟨Or.inr (Or.inl g), fun x hx => by simp at hx⟩
 ·rw [e]
  exact ⟨Or.inr (Or.inr (Or.inl ⟨arV_1 h, rfl⟩)), fun x hx => by simp at hx; omega⟩
 ·rw [e]
  exact ⟨Or.inr (Or.inr (Or.inr ⟨arV_2 h, rfl⟩)), fun x hx => by simp at hx; omega⟩
theorem nodeP_all {t : Pt} (ho : t.ok) (hl : t.flat.length ≤ 1000) (k : Nat) (hk : k < t.flat.length) : NodeP t.flat k ((outsL t 0).getD k []) := by
 have := nodeP_tree t.flat hl t ho [] [] (by simp) k hk
 simpa using this
theorem mOk_tree {t : Pt} (ho : t.ok) (hl : t.flat.length ≤ 1000) (hr : ∀ x ∈ t.flat, x.f1.length ≤ 1048576) : MOk t.flat (outsL t 0) := by
 refine ⟨outsL_len t 0, hl, t.flat_pos, fun k hk => kidsOk_of (nodeP_all ho hl k hk), fun k hk _ x => ?_⟩
 have hlen : (rd_T49 t.flat (k : Int)).f1.length ≤ 1048576 := by rw [rdS_I _ k hk]; exact hr _ (List.getElem_mem _)
 obtain ⟨q, hq⟩ := Ev.rounds (implIn_ev (rd_T49 t.flat (k : Int)).f1 x (by omega))
 exact ⟨_, q, hq⟩
theorem inV_mem (s : List Int) (x : Int) (hs : s.length ≤ 1048576) : inV s x = memV x s := by
 have h := implIn_ev s x (by omega)
 obtain ⟨k, hk⟩ := Ev.rounds h
 obtain ⟨k2, hk2⟩ := inV_at ⟨_, k, hk⟩
 obtain ⟨K1, e1⟩ := h
 obtain ⟨K2, e2⟩ := Ev.of (impl_inSet.mono s x) hk2
 have a1 := e1 (K1 + K2) (by omega)
 have a2 := e2 (K1 + K2) (by omega)
 rw [a1] at a2
 exact (Option.some.inj a2).symm
theorem idx_w {a n b : Nat} (ha : a ≤ 1000) (hn : n ≤ 1000) (hb : b ≤ 1000) : wrap64 ((wrap64 ((a : Int) * (wrap64 ((n : Int) + 1)))) + (b : Int)) = ((a * (n + 1) + b : Nat) : Int) := by
 have h := Nat.mul_le_mul ha (show n + 1 ≤ 1001 by omega)
 have e : (a : Int) * ((n : Int) + 1) = ((a * (n + 1) : Nat) : Int) := by rw [Int.natCast_mul, Int.natCast_add]; rfl
 rw [wr ((n : Int) + 1) (by omega) (by omega), e, wr ((a * (n + 1) : Nat) : Int) (by omega) (by omega), wr _ (by omega) (by omega)]
 omega
theorem idx_lt {a n b : Nat} (ha : a ≤ n) (hb : b ≤ n) : a * (n + 1) + b < (n + 1) * (n + 1) := by
 have := Nat.mul_le_mul_right (n + 1) ha
 rw [Nat.succ_mul]
 omega
theorem rdOf_nat (t : List Bool) (j : Nat) : rdOf false t (j : Int) = t.getD j false := by unfold rdOf; simp
theorem rdL5_nat (t : List (List Bool)) (j : Nat) : rd_L6 t (j : Int) = t.getD j [] := by unfold rd_L6; simp
/-- A row of the table tells F. -/
def RowF (n : Nat) (F : Nat → Nat → Bool) (t : List Bool) : Prop := t.length = (n + 1) * (n + 1) ∧ ∀ a b, a ≤ b → b ≤ n → t.getD (a * (n + 1) + b) false = F a b
theorem starL_ev {all : List (List Bool)} {t : List Bool} {n k a b : Nat} {F0 F1 : Nat → Nat → Bool} (hk1 : 1 ≤ k) (hk : k ≤ 1000) (hn : n ≤ 1000) (hab : a ≤ b) (hb : b ≤ n) (hal : all.length = k) (hR : RowF n F0 (all.getD (k - 1) [])) (ht : Aside0 (t.length = (n + 1) * (n + 1))) (hT : ∀ i, a < i → i ≤ b → t.getD (i * (n + 1) + b) false = F1 i b ∨ i = b) (hbb : F1 b b = true) :
  ∀ d m, m + d = b + 1 → a < m → (∀ i, a < i → i < m → (F0 a i && F1 i b) = false) → Ev (fun q => spec_l5Cell.l0 q all t (k : Int) (a : Int) (b : Int) (wrap64 ((n : Int) + 1)) (m : Int)) (anyFT (a + 1) b fun i => F0 a i && F1 i b) := by
 intro d
 induction d with
 | zero =>
  intro m hm ham hno
  rw [anyFT_false fun i h1 h2 => hno i (by omega) (by omega)]
  refine Ev.step (f := fun _ => some false) (fun q => ?_) (Ev.now _)
  simp only [spec_l5Cell.l0]
  rw [if_neg (by omega)]
 | succ d ih =>
  intro m hm ham hno
  have hw : wrap64 ((k : Int) - 1) = ((k - 1 : Nat) : Int) := by rw [wr _ (by omega) (by omega)]; omega
  have hw2 : wrap64 ((m : Int) + 1) = ((m + 1 : Nat) : Int) := by rw [wr _ (by omega) (by omega)]; omega
  have i1 := idx_lt (a := a) (n := n) (b := m) (by omega) (by omega)
  have i2 := idx_lt (a := m) (n := n) (b := b) (by omega) (by omega)
  have v1 := hR.2 a m (by omega) (by omega)
  have hl := hR.1
  by_cases c1 : F0 a m = true
  ·by_cases c2 : m = b
   ·subst c2
    rw [anyFT_true m (by omega) (Nat.le_refl _) (by rw [c1, hbb]; rfl)]
    refine Ev.step (f := fun _ => some true) (fun q => ?_) (Ev.now _)
    simp only [spec_l5Cell.l0]
    rw [if_pos (by omega), hw, if_pos (by omega), if_pos (by omega), idx_w (by omega) hn (by omega), if_pos (by omega), rdL5_nat, if_pos (by rw [hl]; omega), rdOf_nat, v1, if_pos c1, if_pos trivial]
   ·have v2 := (hT m ham (by omega)).resolve_right c2
    by_cases c3 : F1 m b = true
    ·rw [anyFT_true m (by omega) (by omega) (by rw [c1, c3]; rfl)]
     refine Ev.step (f := fun _ => some true) (fun q => ?_) (Ev.now _)
     simp only [spec_l5Cell.l0]
     rw [if_pos (by omega), hw, if_pos (by omega), if_pos (by omega), idx_w (by omega) hn (by omega), if_pos (by omega), rdL5_nat, if_pos (by rw [hl]; omega), rdOf_nat, v1, if_pos c1, if_neg (by omega), idx_w (by omega) hn (by omega), if_pos (by omega), if_pos (by rw [ht.out]; omega), rdOf_nat, v2, if_pos c3]
    ·refine Ev.step (f := fun q => spec_l5Cell.l0 q all t (k : Int) (a : Int) (b : Int) (wrap64 ((n : Int) + 1)) ((m + 1 : Nat) : Int)) (fun q => ?_) (ih (m + 1) (by omega) (by omega) fun i h1 h2 => by
      by_cases e : i = m
      ·subst e; rw [Bool.eq_false_iff.2 c3, Bool.and_false]
      ·exact hno i h1 (by omega))
     simp only [spec_l5Cell.l0]
     rw [if_pos (by omega), hw, if_pos (by omega), if_pos (by omega), idx_w (by omega) hn (by omega), if_pos (by omega), rdL5_nat, if_pos (by rw [hl]; omega), rdOf_nat, v1, if_pos c1, if_neg (by omega), idx_w (by omega) hn (by omega), if_pos (by omega), if_pos (by rw [ht.out]; omega), rdOf_nat, v2, if_neg c3, hw2]
  ·refine Ev.step (f := fun q => spec_l5Cell.l0 q all t (k : Int) (a : Int) (b : Int) (wrap64 ((n : Int) + 1)) ((m + 1 : Nat) : Int)) (fun q => ?_) (ih (m + 1) (by omega) (by omega) fun i h1 h2 => by
    by_cases e : i = m
    ·subst e; rw [Bool.eq_false_iff.2 c1, Bool.false_and]
    ·exact hno i h1 (by omega))
   simp only [spec_l5Cell.l0]
   rw [if_pos (by omega), hw, if_pos (by omega), if_pos (by omega), idx_w (by omega) hn (by omega), if_pos (by omega), rdL5_nat, if_pos (by rw [hl]; omega), rdOf_nat, v1, if_neg c1, hw2]
theorem catL_ev {ta tb : List Bool} {n a b : Nat} {F0 F1 : Nat → Nat → Bool} (hn : n ≤ 1000) (hab : a ≤ b) (hb : b ≤ n) (hA : RowF n F0 ta) (hB : RowF n F1 tb) :
  ∀ d m, m + d = b + 1 → a ≤ m → (∀ i, a ≤ i → i < m → (F0 a i && F1 i b) = false) → Ev (fun q => spec_l5Cell.l1 q (a : Int) (b : Int) (wrap64 ((n : Int) + 1)) ta tb (m : Int)) (anyFT a b fun i => F0 a i && F1 i b) := by
 intro d
 induction d with
 | zero =>
  intro m hm ham hno
  rw [anyFT_false fun i h1 h2 => hno i (by omega) (by omega)]
  refine Ev.step (f := fun _ => some false) (fun q => ?_) (Ev.now _)
  simp only [spec_l5Cell.l1]
  rw [if_neg (by omega)]
 | succ d ih =>
  intro m hm ham hno
  have hw2 : wrap64 ((m : Int) + 1) = ((m + 1 : Nat) : Int) := by rw [wr _ (by omega) (by omega)]; omega
  have i1 := idx_lt (a := a) (n := n) (b := m) (by omega) (by omega)
  have i2 := idx_lt (a := m) (n := n) (b := b) (by omega) (by omega)
  have v1 := hA.2 a m (by omega) (by omega)
  have v2 := hB.2 m b (by omega) (by omega)
  have hl := hA.1
  have hl2 := hB.1
  by_cases c1 : F0 a m = true
  ·by_cases c3 : F1 m b = true
   ·rw [anyFT_true m (by omega) (by omega) (by rw [c1, c3]; rfl)]
    refine Ev.step (f := fun _ => some true) (fun q => ?_) (Ev.now _)
    simp only [spec_l5Cell.l1]
    rw [if_pos (by omega), idx_w (by omega) hn (by omega), if_pos (by omega), if_pos (by rw [hl]; omega), rdOf_nat, v1, if_pos c1, idx_w (by omega) hn (by omega), if_pos (by omega), if_pos (by rw [hl2]; omega), rdOf_nat, v2, if_pos c3]
   ·refine Ev.step (f := fun q => spec_l5Cell.l1 q (a : Int) (b : Int) (wrap64 ((n : Int) + 1)) ta tb ((m + 1 : Nat) : Int)) (fun q => ?_) (ih (m + 1) (by omega) (by omega) fun i h1 h2 => by
     by_cases e : i = m
     ·subst e; rw [Bool.eq_false_iff.2 c3, Bool.and_false]
     ·exact hno i h1 (by omega))
    simp only [spec_l5Cell.l1]
    rw [if_pos (by omega), idx_w (by omega) hn (by omega), if_pos (by omega), if_pos (by rw [hl]; omega), rdOf_nat, v1, if_pos c1, idx_w (by omega) hn (by omega), if_pos (by omega), if_pos (by rw [hl2]; omega), rdOf_nat, v2, if_neg c3, hw2]
  ·refine Ev.step (f := fun q => spec_l5Cell.l1 q (a : Int) (b : Int) (wrap64 ((n : Int) + 1)) ta tb ((m + 1 : Nat) : Int)) (fun q => ?_) (ih (m + 1) (by omega) (by omega) fun i h1 h2 => by
    by_cases e : i = m
    ·subst e; rw [Bool.eq_false_iff.2 c1, Bool.false_and]
    ·exact hno i h1 (by omega))
   simp only [spec_l5Cell.l1]
   rw [if_pos (by omega), idx_w (by omega) hn (by omega), if_pos (by omega), if_pos (by rw [hl]; omega), rdOf_nat, v1, if_neg c1, hw2]
theorem kd0_of {parts : List (List Int)} {k : Nat} {xs : List Int} {f : Nat} (e : parts.getD k [] = (f : Int) :: xs) : kd parts k 0 = f := by
 unfold kd
 rw [e]
 simp [rd]
theorem kd1_of {parts : List (List Int)} {k : Nat} {x : Int} {xs : List Int} {f : Nat} (e : parts.getD k [] = x :: (f : Int) :: xs) : kd parts k 1 = f := by
 unfold kd
 rw [e]
 simp [rd]
theorem cell_ev {L : List S49} {parts : List (List Int)} {l : List Int} {all : List (List Bool)} {t : List Bool} {k a b : Nat} (hN : NodeP L k (parts.getD k [])) (hKs : ∀ i, i ≤ k → KidsOk L parts i) (hk : k ≤ 1000) (hl : l.length ≤ 1000) (hset : (rd_T49 L (k : Int)).f1.length % 2 = 0) (hslen : (rd_T49 L (k : Int)).f1.length ≤ 1048576) (hal : all.length = k) (hA : ∀ i, i < k → RowF l.length (reF inV L parts l i) (all.getD i [])) (ht : Aside0 (t.length = (l.length + 1) * (l.length + 1))) (hT : ∀ i, a < i → i ≤ b → t.getD (i * (l.length + 1) + b) false = reF inV L parts l k i b) (hab : a ≤ b) (hb : b ≤ l.length) :
  Ev (fun q => spec_l5Cell.f q L all t l (k : Int) (rd_T49 L (k : Int)).f0 (rd_T49 L (k : Int)).f1 (a : Int) (b : Int)) (reF inV L parts l k a b) := by
 have d1 : Aside0 (a + 1 + (b - a) = b + 1) := ⟨by clear hT; omega⟩
 have ix := Aside0.mk (idx_w (a := a) (n := l.length) (b := b) (by omega) hl (by omega))
 have il := Aside0.mk (idx_lt (a := a) (n := l.length) (b := b) (by omega) hb)
 have hstep := reF_step (I := inV) (l := l) hKs hab hb
 rw [← hstep]
 rcases hN with ⟨h, e⟩ | ⟨h, h1, e⟩ | ⟨h, h1, f, hf, e, hfe⟩
 ·rcases arV_0 h with g | g
  ·rw [lookF_nil _ _ _ _ _ _ _ _ g, g]
   refine Ev.congr (f := fun _ => some (decide (a = b))) (fun q => ?_) (Ev.now _)
   unfold spec_l5Cell.f
   rw [if_pos rfl]
   congr 1
   rw [Bool.eq_iff_iff, beq_iff_eq, decide_eq_true_iff]; omega
  ·rw [lookF_set _ _ _ _ _ _ _ _ g, g]
   have hw := wr ((a : Int) + 1) (by omega) (by omega)
   by_cases c : b = a + 1
   ·rw [if_pos c, inV_mem _ _ hslen]
    refine Ev.congr (fun q => by unfold spec_l5Cell.f; rw [if_neg (by decide), if_pos rfl, hw, if_pos (by omega), if_pos (by omega), if_pos (by omega)]) (Ev.bind (specIn_ev _ _ (by omega) hset) (Ev.now _))
   ·rw [if_neg c]
    exact Ev.congr (fun q => by unfold spec_l5Cell.f; rw [if_neg (by decide), if_pos rfl, hw, if_neg (by omega)]) (Ev.now false)
 ·have hw : wrap64 ((k : Int) - 1) = ((k - 1 : Nat) : Int) := by rw [wr _ (by omega) (by omega)]; omega
  have e' : parts.getD k [] = ((k - 1 : Nat) : Int) :: [] := by rw [e, show ((k - 1 : Nat) : Int) = (k : Int) - 1 from by omega]
  have ek := kd0_of e'
  have hR := hA (k - 1) (by omega)
  rcases arV_1 h with g | g
  ·have hbb : reF inV L parts l k b b = true := by
    rw [← reF_step (I := inV) (l := l) hKs (Nat.le_refl b) hb, lookF_star _ _ _ _ _ _ _ _ g, if_pos rfl]
   rw [lookF_star _ _ _ _ _ _ _ _ g, g, ek]
   by_cases c : a = b
   ·rw [if_pos c]
    exact Ev.congr (fun q => by unfold spec_l5Cell.f; rw [if_neg (by decide), if_neg (by decide), if_neg (by decide), if_pos rfl, if_pos (by omega)]) (Ev.now true)
   ·rw [if_neg c]
    have hw2 : wrap64 ((a : Int) + 1) = ((a + 1 : Nat) : Int) := by rw [wr _ (by omega) (by omega)]; omega
    have c' : ¬ ((a : Int) = (b : Int)) := fun q => c (Int.ofNat.inj q)
    have QQ := starL_ev (n := l.length) (F0 := reF inV L parts l (k - 1)) (F1 := reF inV L parts l k) h1 hk hl hab hb hal hR ht (fun i g1 g2 => Or.inl (hT i g1 g2)) hbb (b - a) (a + 1) d1.out (Nat.lt_succ_self a) (fun i g1 g2 => absurd g2 (Nat.not_lt.2 g1))
    refine Ev.congr (f := fun q => spec_l5Cell.l0 q all t (k : Int) (a : Int) (b : Int) (wrap64 ((l.length : Int) + 1)) ((a + 1 : Nat) : Int)) (fun q => ?_) QQ
    clear QQ
    unfold spec_l5Cell.f
    rw [if_neg (by decide), if_neg (by decide), if_neg (by decide), if_pos rfl, if_neg c', hw2]
  ·rw [lookF_not _ _ _ _ _ _ _ _ g, g, ek]
   have v := hR.2 a b hab hb
   have hlen := Aside0.mk hR.1
   refine Ev.congr (f := fun _ => some (!reF inV L parts l (k - 1) a b)) (fun q => ?_) (Ev.now _)
   unfold spec_l5Cell.f
   rw [if_neg (by decide), if_neg (by decide), if_pos rfl, hw, if_pos (by omega), if_pos (by omega), ix.out, if_pos (by omega), rdL5_nat, if_pos (by rw [hlen.out]; exact Int.ofNat_lt.2 il.out), rdOf_nat, v]
 ·have hw : wrap64 ((k : Int) - 1) = ((k - 1 : Nat) : Int) := by rw [wr _ (by omega) (by omega)]; omega
  have e' : parts.getD k [] = (f : Int) :: ((k - 1 : Nat) : Int) :: [] := by rw [e, show ((k - 1 : Nat) : Int) = (k : Int) - 1 from by omega]
  have ek := kd0_of e'
  have ek1 := kd1_of e'
  have hR0 := hA f hf
  have hR1 := hA (k - 1) (by omega)
  have v0 := hR0.2 a b hab hb
  have v1 := hR1.2 a b hab hb
  have hl0 := Aside0.mk hR0.1
  have hl1 := Aside0.mk hR1.1
  rcases arV_2 h with g | g | g
  ·rw [lookF_cat _ _ _ _ _ _ _ _ g, g, ek, ek1]
   refine Ev.congr (fun q => by unfold spec_l5Cell.f; rw [if_neg (by decide), if_neg (by decide), if_neg (by decide), if_neg (by decide)]) (Ev.bind hfe ?_)
   refine Ev.congr (fun q => by rw [if_pos (by omega), if_pos (by omega), hw, if_pos (by omega), if_pos (by omega), if_neg (by decide), if_neg (by decide), rdL5_nat, rdL5_nat]) ?_
   exact catL_ev (n := l.length) (F0 := reF inV L parts l f) (F1 := reF inV L parts l (k - 1)) hl hab hb hR0 hR1 (b + 1 - a) a (by omega) (Nat.le_refl _) (fun i g1 g2 => by omega)
  ·rw [lookF_or _ _ _ _ _ _ _ _ g, g, ek, ek1]
   refine Ev.congr (fun q => by unfold spec_l5Cell.f; rw [if_neg (by decide), if_neg (by decide), if_neg (by decide), if_neg (by decide)]) (Ev.bind hfe ?_)
   refine Ev.congr (f := fun _ => some (reF inV L parts l f a b || reF inV L parts l (k - 1) a b)) (fun q => ?_) (Ev.now _)
   rw [if_pos (by omega), if_pos (by omega), hw, if_pos (by omega), if_pos (by omega), if_pos rfl, ix.out, if_pos (by omega), rdL5_nat, if_pos (by rw [hl0.out]; exact Int.ofNat_lt.2 il.out), rdL5_nat, rdOf_nat, rdOf_nat, v0, v1]
   cases reF inV L parts l f a b
   ·rw [if_neg (by simp), if_pos (by rw [hl1.out]; exact Int.ofNat_lt.2 il.out), Bool.false_or]
   ·rw [if_pos rfl, Bool.true_or]
  ·rw [lookF_and _ _ _ _ _ _ _ _ g, g, ek, ek1]
   refine Ev.congr (fun q => by unfold spec_l5Cell.f; rw [if_neg (by decide), if_neg (by decide), if_neg (by decide), if_neg (by decide)]) (Ev.bind hfe ?_)
   refine Ev.congr (f := fun _ => some (reF inV L parts l f a b && reF inV L parts l (k - 1) a b)) (fun q => ?_) (Ev.now _)
   rw [if_pos (by omega), if_pos (by omega), hw, if_pos (by omega), if_pos (by omega), if_neg (by decide), if_pos rfl, ix.out, if_pos (by omega), rdL5_nat, if_pos (by rw [hl0.out]; exact Int.ofNat_lt.2 il.out), rdL5_nat, rdOf_nat, rdOf_nat, v0, v1]
   cases reF inV L parts l f a b
   ·rw [if_neg (by simp), Bool.false_and]
   ·rw [if_pos rfl, if_pos (by rw [hl1.out]; exact Int.ofNat_lt.2 il.out), Bool.true_and]
theorem set_same {t : List Bool} {i : Nat} {x : Bool} (h : i < t.length) : (t.set i x).getD i false = x := by
 rw [List.getD_eq_getElem?_getD, List.getElem?_set_self h]; rfl
theorem set_other {t : List Bool} {i j : Nat} {x : Bool} (h : i ≠ j) : (t.set i x).getD j false = t.getD j false := by
 rw [List.getD_eq_getElem?_getD, List.getElem?_set_ne h, ← List.getD_eq_getElem?_getD]
theorem row2_ev {L : List S49} {parts : List (List Int)} {l : List Int} {all : List (List Bool)} {k a : Nat} (hN : NodeP L k (parts.getD k [])) (hKs : ∀ i, i ≤ k → KidsOk L parts i) (hk : k ≤ 1000) (hl : l.length ≤ 1000) (hset : (rd_T49 L (k : Int)).f1.length % 2 = 0) (hslen : (rd_T49 L (k : Int)).f1.length ≤ 1048576) (hal : all.length = k) (hA : ∀ i, i < k → RowF l.length (reF inV L parts l i) (all.getD i [])) (ha : a ≤ l.length) :
  ∀ (d b : Nat) (t : List Bool), b + d = l.length + 1 → a ≤ b → Aside0 (t.length = (l.length + 1) * (l.length + 1)) → Aside0 (∀ i j, a < i → i ≤ j → j ≤ l.length → t.getD (i * (l.length + 1) + j) false = reF inV L parts l k i j) → Aside0 (∀ j, a ≤ j → j < b → t.getD (a * (l.length + 1) + j) false = reF inV L parts l k a j) →
  ∃ t' : List Bool, Aside0 (t'.length = (l.length + 1) * (l.length + 1)) ∧ Aside0 (∀ i j, a ≤ i → i ≤ j → j ≤ l.length → t'.getD (i * (l.length + 1) + j) false = reF inV L parts l k i j) ∧ ∀ r, Ev (fun q => spec_l5Table.l1 q L l (wrap64 ((l.length : Int) + 1)) all (k : Int) t' ((a : Int) - 1) L (L.length : Int) (k : Int) (rd_T49 L (k : Int)).f0 (rd_T49 L (k : Int)).f1) r → Ev (fun q => spec_l5Table.l2 q L l (wrap64 ((l.length : Int) + 1)) all (k : Int) t (a : Int) (b : Int) L (L.length : Int) (k : Int) (rd_T49 L (k : Int)).f0 (rd_T49 L (k : Int)).f1) r := by
 intro d
 have hN1 : wrap64 ((l.length : Int) + 1) = (l.length : Int) + 1 := wr _ (by omega) (by omega)
 induction d with
 | zero =>
  intro b t hb hab ht h1 h2
  refine ⟨t, ht, ⟨fun i j g1 g2 g3 => ?_⟩, fun r hr => ?_⟩
  ·by_cases e : i = a
   ·subst e; exact h2.out j g2 (by omega)
   ·exact h1.out i j (by omega) g2 g3
  ·refine Ev.step (fun q => ?_) hr
   simp only [spec_l5Table.l2]
   rw [if_neg (by rw [hN1]; omega), wr ((a : Int) - 1) (by omega) (by omega)]
 | succ d ih =>
  intro b t hb hab ht h1 h2
  have hbl : b ≤ l.length := by omega
  have hc := Aside0.mk (cell_ev hN hKs hk hl hset hslen hal hA ht (fun i g1 g2 => h1.out i b g1 g2 hbl) hab hbl)
  have il := Aside0.mk (idx_lt (a := a) (n := l.length) (b := b) ha hbl)
  have ix := Aside0.mk (idx_w (a := a) (n := l.length) (b := b) (by omega) hl (by omega))
  have hw2 : wrap64 ((b : Int) + 1) = ((b + 1 : Nat) : Int) := by rw [wr _ (by omega) (by omega)]; omega
  have hset2 : Aside0 (∀ x : Bool, (t.set (a * (l.length + 1) + b) x).length = (l.length + 1) * (l.length + 1)) := ⟨fun x => by rw [List.length_set]; exact ht.out⟩
  obtain ⟨t', g1, g2, g3⟩ := ih (b + 1) (t.set (a * (l.length + 1) + b) (reF inV L parts l k a b)) (by omega) (by omega) ⟨hset2.out _⟩
   ⟨fun i j q1 q2 q3 => by
    have hm := Nat.mul_le_mul_right (l.length + 1) (show a + 1 ≤ i from q1)
    rw [Nat.succ_mul] at hm
    rw [set_other (by omega)]; exact h1.out i j q1 q2 q3⟩
   ⟨fun j q1 q2 => by
    by_cases e : j = b
    ·subst e; exact set_same (by rw [ht.out]; exact il.out)
    ·rw [set_other (by omega)]; exact h2.out j q1 (by omega)⟩
  refine ⟨t', g1, g2, fun r hr => ?_⟩
  refine Ev.step (f := fun q => (spec_l5Cell.f q L all t l (k : Int) (rd_T49 L (k : Int)).f0 (rd_T49 L (k : Int)).f1 (a : Int) (b : Int)).bind fun x => spec_l5Table.l2 q L l (wrap64 ((l.length : Int) + 1)) all (k : Int) (t.set (a * (l.length + 1) + b) x) (a : Int) ((b + 1 : Nat) : Int) L (L.length : Int) (k : Int) (rd_T49 L (k : Int)).f0 (rd_T49 L (k : Int)).f1) (fun q => ?_) (Ev.bind hc.out (g3 r hr))
  simp only [spec_l5Table.l2]
  rw [if_pos (by rw [hN1]; omega)]
  congr 1
  funext x
  rw [ix.out, if_pos (by omega), if_pos (by rw [ht.out]; exact Int.ofNat_lt.2 il.out), Int.toNat_natCast, hw2]
theorem row1_ev {L : List S49} {parts : List (List Int)} {l : List Int} {all : List (List Bool)} {k : Nat} (hN : NodeP L k (parts.getD k [])) (hKs : ∀ i, i ≤ k → KidsOk L parts i) (hk : k ≤ 1000) (hl : l.length ≤ 1000) (hset : (rd_T49 L (k : Int)).f1.length % 2 = 0) (hslen : (rd_T49 L (k : Int)).f1.length ≤ 1048576) (hal : all.length = k) (hA : ∀ i, i < k → RowF l.length (reF inV L parts l i) (all.getD i [])) :
  ∀ (c : Nat) (t : List Bool), c ≤ l.length + 1 → Aside0 (t.length = (l.length + 1) * (l.length + 1)) → Aside0 (∀ i j, c ≤ i → i ≤ j → j ≤ l.length → t.getD (i * (l.length + 1) + j) false = reF inV L parts l k i j) →
  ∃ t' : List Bool, RowF l.length (reF inV L parts l k) t' ∧ ∀ r, Ev (fun q => spec_l5Table.l0 q L l (wrap64 ((l.length : Int) + 1)) (all ++ [t']) L (L.length : Int) ((k + 1 : Nat) : Int)) r → Ev (fun q => spec_l5Table.l1 q L l (wrap64 ((l.length : Int) + 1)) all (k : Int) t ((c : Int) - 1) L (L.length : Int) (k : Int) (rd_T49 L (k : Int)).f0 (rd_T49 L (k : Int)).f1) r := by
 intro c
 have hk1 : wrap64 ((k : Int) + 1) = ((k + 1 : Nat) : Int) := by rw [wr _ (by omega) (by omega)]; omega
 induction c with
 | zero =>
  intro t hc ht h1
  refine ⟨t, ⟨ht.out, fun a b g1 g2 => h1.out a b (Nat.zero_le _) g1 g2⟩, fun r hr => ?_⟩
  refine Ev.step (fun q => ?_) hr
  simp only [spec_l5Table.l1]
  rw [if_neg (by omega), if_pos (by omega), hk1]
 | succ c ih =>
  intro t hc ht h1
  obtain ⟨t1, g1, g2, g3⟩ := row2_ev (a := c) hN hKs hk hl hset hslen hal hA (by omega) (l.length + 1 - c) c t (by omega) (Nat.le_refl _) ht ⟨fun i j q1 q2 q3 => h1.out i j q1 q2 q3⟩ ⟨fun j q1 q2 => by omega⟩
  obtain ⟨t', k1, k2⟩ := ih t1 (by omega) g1 g2
  refine ⟨t', k1, fun r hr => ?_⟩
  refine Ev.step (fun q => ?_) (g3 r (k2 r hr))
  simp only [spec_l5Table.l1]
  rw [show ((c + 1 : Nat) : Int) - 1 = (c : Int) from by omega, if_pos (by omega)]
theorem table_ev {L : List S49} {parts : List (List Int)} {l : List Int} (hL : L.length ≤ 1000) (hl : l.length ≤ 1000) (hN : ∀ k, k < L.length → NodeP L k (parts.getD k [])) (hset : ∀ k : Nat, k < L.length → (rd_T49 L (k : Int)).f1.length % 2 = 0 ∧ (rd_T49 L (k : Int)).f1.length ≤ 1048576) :
  ∀ (d k : Nat) (all : List (List Bool)), k + d = L.length → all.length = k → (∀ i, i < k → RowF l.length (reF inV L parts l i) (all.getD i [])) →
  ∃ tab : List (List Bool), tab.length = L.length ∧ (∀ i, i < L.length → RowF l.length (reF inV L parts l i) (tab.getD i [])) ∧ Ev (fun q => spec_l5Table.l0 q L l (wrap64 ((l.length : Int) + 1)) all L (L.length : Int) (k : Int)) tab := by
 intro d
 have hKs : ∀ i, i < L.length → KidsOk L parts i := fun i hi => kidsOk_of (hN i hi)
 induction d with
 | zero =>
  intro k all hk hal hA
  refine ⟨all, by omega, fun i hi => hA i (by omega), ?_⟩
  refine Ev.step (f := fun _ => some all) (fun q => ?_) (Ev.now _)
  simp only [spec_l5Table.l0]
  rw [if_neg (by omega)]
 | succ d ih =>
  intro k all hk hal hA
  have hkl : k < L.length := by omega
  obtain ⟨z, hz⟩ : ∃ z, z = (l.length + 1) * (l.length + 1) := ⟨_, rfl⟩
  have hz1 : z ≤ 1001 * 1001 := by rw [hz]; exact Nat.mul_le_mul (by omega) (by omega)
  obtain ⟨t', k1, k2⟩ := row1_ev (hN k hkl) (fun i hi => hKs i (by omega)) (by omega) hl (hset k hkl).1 (hset k hkl).2 hal hA (l.length + 1) (List.replicate z false) (Nat.le_refl _) ⟨by rw [List.length_replicate, hz]⟩ ⟨fun i j q1 q2 q3 => by omega⟩
  obtain ⟨tab, m1, m2, m3⟩ := ih (k + 1) (all ++ [t']) (by omega) (by simp [hal]) (fun i hi => by
   by_cases e : i < k
   ·rw [getD_l _ _ _ (by omega)]; exact hA i e
   ·obtain rfl : i = k := by omega
    rw [getD_r _ _ _ (by omega), hal, Nat.sub_self]; exact k1)
  refine ⟨tab, m1, m2, ?_⟩
  have hw : wrap64 ((wrap64 ((l.length : Int) + 1)) * (wrap64 ((l.length : Int) + 1))) = ((z : Nat) : Int) := by
   have e : ((l.length : Int) + 1) * ((l.length : Int) + 1) = ((z : Nat) : Int) := by rw [hz, Int.natCast_mul, Int.natCast_add]; rfl
   rw [wr ((l.length : Int) + 1) (by omega) (by omega), e, wr _ (by omega) (by omega)]
  have hw3 : wrap64 ((wrap64 ((l.length : Int) + 1)) - 1) = ((l.length + 1 : Nat) : Int) - 1 := by rw [wr ((l.length : Int) + 1) (by omega) (by omega), wr _ (by omega) (by omega)]; omega
  refine Ev.step (fun q => ?_) (k2 _ m3)
  simp only [spec_l5Table.l0]
  rw [if_pos (by omega), if_pos (by omega), if_pos (by omega), hw, if_pos (by omega), Int.toNat_natCast, if_pos (by omega), hw3]
theorem rdS_mem {L : List S49} {k : Nat} (h : k < L.length) : rd_T49 L (k : Int) ∈ L := by rw [rdS_I _ k h]; exact List.getElem_mem _
theorem even_of {x : S49} (h : setOk x = true) : x.f1.length % 2 = 0 := by
 unfold setOk at h
 rw [Bool.and_eq_true] at h
 have h2 := h.1
 unfold GoodS at h2
 rw [Bool.and_eq_true] at h2
 exact good_even _ _ h2.1
theorem matches_ev {t : Pt} (ho : t.ok) (hs : t.sets) (hL : t.flat.length ≤ 1000) (hr : ∀ x ∈ t.flat, x.f1.length ≤ 1048576) (l : List Int) (hl : l.length ≤ 1000) : Ev (fun q => spec_l5Matches.f q t.flat l) (reF inV t.flat (outsL t 0) l (t.flat.length - 1) 0 l.length) := by
 have hp := t.flat_pos
 obtain ⟨tab, h1, h2, h3⟩ := table_ev (L := t.flat) (parts := outsL t 0) (l := l) hL hl (fun k hk => nodeP_all ho hL k hk) (fun k hk => ⟨even_of (hs _ (rdS_mem hk)), hr _ (rdS_mem hk)⟩) t.flat.length 0 [] (by omega) rfl (fun i hi => by omega)
 have hR := h2 (t.flat.length - 1) (by omega)
 have hlen := Aside0.mk hR.1
 have v := hR.2 0 l.length (Nat.zero_le _) (Nat.le_refl _)
 rw [Nat.zero_mul, Nat.zero_add] at v
 have il := Aside0.mk (idx_lt (a := 0) (n := l.length) (b := l.length) (Nat.zero_le _) (Nat.le_refl _))
 have hw : wrap64 ((t.flat.length : Int) - 1) = ((t.flat.length - 1 : Nat) : Int) := by rw [wr _ (by omega) (by omega)]; omega
 have h4 : Ev (fun q => spec_l5Table.f q t.flat l) tab := Ev.congr (fun q => by unfold spec_l5Table.f; rfl) h3
 refine Ev.congr (fun q => by unfold spec_l5Matches.f; rfl) (Ev.bind h4 ?_)
 refine Ev.congr (fun q => ?_) (Ev.now _)
 rw [hw, if_pos (by omega), if_pos (by omega), if_pos (by omega), rdL5_nat, if_pos (by rw [hlen.out]; have := il.out; rw [Nat.zero_mul, Nat.zero_add] at this; exact Int.ofNat_lt.2 this), rdOf_nat, v]
theorem reM_v {t : Pt} (ho : t.ok) (hL : t.flat.length ≤ 1000) (hr : ∀ x ∈ t.flat, x.f1.length ≤ 1048576) (l : List Int) (hl : l.length ≤ 1000) : reM t.flat (outsL t 0) l = some (reF inV t.flat (outsL t 0) l (t.flat.length - 1) 0 l.length) := by
 unfold reM
 rw [if_pos ⟨mOk_tree ho hL hr, hl⟩]
/-- Whether a tree matches the empty list. -/
noncomputable def nullT (t : Pt) : Bool := reF inV t.flat (outsL t 0) [] (t.flat.length - 1) 0 0
/-- The derivative of a tree. -/
noncomputable def Pt.der (r : Int) : Pt → Pt
 | .l n => if n.f0 = 1 then .l (nd 2) else if memV r n.f1 = true then .l (nd 1) else .l (nd 2)
 | .u n a => if n.f0 = 6 then .b (nd 3) (a.der r) (.u n a) else .u (nd 7) (a.der r)
 | .b n x y => if n.f0 = 3 then (if nullT x = true then .b (nd 4) (.b (nd 3) (x.der r) y) (y.der r) else .b (nd 3) (x.der r) y) else .b (nd n.f0) (x.der r) (y.der r)
theorem Pt.der_ok (r : Int) : ∀ t : Pt, t.ok → (t.der r).ok
 | .l _, _ => by
  unfold Pt.der
  repeat' split
  all_goals simp [Pt.ok, nd, arV]
 | .u n a, h => by
  have ih := a.der_ok r h.2
  unfold Pt.der
  split
  ·exact ⟨by simp [nd, arV], ih, h⟩
  ·exact ⟨by simp [nd, arV], ih⟩
 | .b n x y, h => by
  have ix := x.der_ok r h.2.1
  have iy := y.der_ok r h.2.2
  unfold Pt.der
  repeat' split
  ·exact ⟨by simp [nd, arV], ⟨by simp [nd, arV], ix, h.2.2⟩, iy⟩
  ·exact ⟨by simp [nd, arV], ix, h.2.2⟩
  ·exact ⟨h.1, ix, iy⟩
theorem Pt.der_sets (r : Int) : ∀ t : Pt, t.sets → (t.der r).sets
 | .l _, _ => by
  unfold Pt.der
  repeat' split
  all_goals exact Pt.sets_l.2 (nd_ok _)
 | .u n a, h => by
  have ih := a.der_sets r (Pt.sets_u.1 h).1
  unfold Pt.der
  split
  ·exact Pt.sets_b.2 ⟨ih, h, nd_ok _⟩
  ·exact Pt.sets_u.2 ⟨ih, nd_ok _⟩
 | .b n x y, h => by
  obtain ⟨h1, h2, _⟩ := Pt.sets_b.1 h
  have ix := x.der_sets r h1
  have iy := y.der_sets r h2
  unfold Pt.der
  repeat' split
  ·exact Pt.sets_b.2 ⟨Pt.sets_b.2 ⟨ix, h2, nd_ok _⟩, iy, nd_ok _⟩
  ·exact Pt.sets_b.2 ⟨ix, h2, nd_ok _⟩
  ·exact Pt.sets_b.2 ⟨ix, iy, nd_ok _⟩
theorem Pt.der_len (r : Int) : ∀ t : Pt, t.flat.length ≤ 40 → (t.der r).flat.length ≤ 42 * t.flat.length
 | .l _, _ => by
  unfold Pt.der
  repeat' split
  all_goals simp [Pt.flat]
 | .u n a, h => by
  simp only [Pt.flat, List.length_append, List.length_singleton] at h
  have ih := a.der_len r (by omega)
  unfold Pt.der
  split
  ·simp only [Pt.flat, List.length_append, List.length_singleton]; omega
  ·simp only [Pt.flat, List.length_append, List.length_singleton]; omega
 | .b n x y, h => by
  simp only [Pt.flat, List.length_append, List.length_singleton] at h
  have ix := x.der_len r (by omega)
  have iy := y.der_len r (by omega)
  unfold Pt.der
  repeat' split
  all_goals (simp only [Pt.flat, List.length_append, List.length_singleton]; omega)
theorem Pt.der_l2 {r : Int} {n : S49} (h : ¬ n.f0 = 1) (c : memV r n.f1 = true) : (Pt.l n).der r = .l (nd 1) := (if_neg h).trans (if_pos c)
theorem Pt.der_l3 {r : Int} {n : S49} (h : ¬ n.f0 = 1) (c : ¬ memV r n.f1 = true) : (Pt.l n).der r = .l (nd 2) := (if_neg h).trans (if_neg c)
theorem Pt.der_b1 {r : Int} {n : S49} {x y : Pt} (h : n.f0 = 3) (c : nullT x = true) : (Pt.b n x y).der r = .b (nd 4) (.b (nd 3) (x.der r) y) (y.der r) := (if_pos h).trans (if_pos c)
theorem Pt.der_b2 {r : Int} {n : S49} {x y : Pt} (h : n.f0 = 3) (c : ¬ nullT x = true) : (Pt.b n x y).der r = .b (nd 3) (x.der r) y := (if_pos h).trans (if_neg c)
theorem one_w (m : Nat) (h : m = 1) : wrap64 ((m : Int) - 1) = 0 := by subst h; unfold wrap64; omega
theorem cut_mid (pre m post L : List S49) (e : L = pre ++ (m ++ post)) (i j : Int) (hi : i = (pre.length : Int) + (m.length : Int)) (hj : j = (pre.length : Int)) : (L.take i.toNat).drop j.toNat = m := by
 subst e hi hj
 rw [show ((pre.length : Int) + (m.length : Int)).toNat = pre.length + m.length from by omega, Int.toNat_natCast, ← List.append_assoc, List.take_append_of_le_length (by simp), List.take_of_length_le (by simp), List.drop_left]
theorem implDer_ev (r : Int) : ∀ (t : Pt), t.ok → t.sets → t.flat.length ≤ 40 → Ev (fun k => impl_deriv.f k t.flat r) (t.der r).flat
 | .l n, ho, hs, hl => by
  have ho' : arV n.f0 = 0 := ho
  have hn := sets_len hs n (by simp [Pt.flat])
  refine Ev.step (fun k => by simp only [Pt.flat, impl_deriv.f]; rfl) (Ev.bind (splitL_ev n ho') ?_)
  rcases arV_0 ho' with g | g
  ·refine Ev.congr (fun k => by rw [if_pos g, nothing_v, Option.bind_some]) ?_
   rw [show (Pt.l n).der r = .l (nd 2) from if_pos g]
   exact Ev.now _
  ·have e0 : wrap64 ((([n] : List S49).length : Int) - 1) = 0 := one_w _ List.length_singleton
   have g1 : ¬ n.f0 = 1 := by omega
   have e1 : (0 : Int) < (([n] : List S49).length : Int) := Int.zero_lt_one
   have er : rd_T49 [n] 0 = n := rd_one n
   have key : ∀ (k : Nat) (z : Int), z = 0 → (if 0 ≤ z then (if z < (([n] : List S49).length : Int) then ((impl_inSet.f k (rd_T49 [n] z).f1 r).bind fun t => if t = true then (impl_none.f.bind fun t => some t) else (impl_nothing.f.bind fun t => some t)) else none) else none) = ((impl_inSet.f k n.f1 r).bind fun t => if t = true then (impl_none.f.bind fun t => some t) else (impl_nothing.f.bind fun t => some t)) := by
    intro k z h
    subst h
    rw [if_pos (Int.le_refl 0), if_pos e1, er]
   refine Ev.congr (f := fun k => (impl_inSet.f k n.f1 r).bind fun t => if t = true then (impl_none.f.bind fun t => some t) else (impl_nothing.f.bind fun t => some t)) (fun k => by rw [if_neg g1, if_pos g]; exact key k _ e0) (Ev.bind (implIn_ev n.f1 r (by omega)) ?_)
   by_cases c : memV r n.f1 = true
   ·rw [Pt.der_l2 (by omega) c]
    exact Ev.congr (fun k => by rw [if_pos c, none_v, Option.bind_some]; rfl) (Ev.now _)
   ·rw [Pt.der_l3 (by omega) c]
    exact Ev.congr (fun k => by rw [if_neg c, nothing_v, Option.bind_some]; rfl) (Ev.now _)
 | .u n a, ho, hs, hl => by
  have ho' : arV n.f0 = 1 := ho.1
  have hl' := hl
  simp only [Pt.flat, List.length_append, List.length_singleton] at hl'
  have hsa := (Pt.sets_u.1 hs).1
  have ih := implDer_ev r a ho.2 hsa (by omega)
  have hd := a.der_len r (by omega)
  refine Ev.step (fun k => by simp only [impl_deriv.f]; rfl) (Ev.bind (splitU_ev n a ho' (by omega)) ?_)
  rcases arV_1 ho' with g | g
  ·refine Ev.congr (fun k => by rw [if_neg (by omega), if_neg (by omega), if_pos g]) (Ev.bind ih ?_)
   refine Ev.congr (fun k => by rw [node_v 3 [(a.der r).flat, (Pt.u n a).flat] (by simp [Pt.flat]; omega), Option.bind_some]) ?_
   rw [show (Pt.u n a).der r = .b (nd 3) (a.der r) (.u n a) from if_pos g]
   simpa [Pt.flat] using Ev.now _
  ·refine Ev.congr (fun k => by rw [if_neg (by omega), if_neg (by omega), if_neg (by omega), if_pos g]) (Ev.bind ih ?_)
   refine Ev.congr (fun k => by rw [node_v 7 [(a.der r).flat] (by simp; omega), Option.bind_some]) ?_
   rw [show (Pt.u n a).der r = .u (nd 7) (a.der r) from if_neg (by omega)]
   simpa [Pt.flat] using Ev.now _
 | .b n x y, ho, hs, hl => by
  have ho' : arV n.f0 = 2 := ho.1
  have hl' := hl
  simp only [Pt.flat, List.length_append, List.length_singleton] at hl'
  obtain ⟨hsx, hsy, _⟩ := Pt.sets_b.1 hs
  have ihx := implDer_ev r x ho.2.1 hsx (by omega)
  have ihy := implDer_ev r y ho.2.2 hsy (by omega)
  have hdx := x.der_len r (by omega)
  have hdy := y.der_len r (by omega)
  have hnul : Ev (fun k => impl_isNullable.f k x.flat) (nullT x) := by
   refine Ev.congr (fun q => by unfold impl_isNullable.f; rfl) (Ev.bind (partsT_ev x ho.2.1 (by omega)) ?_)
   exact Ev.congr (fun q => reM_v ho.2.1 (by omega) (sets_len hsx) [] (by simp)) (Ev.now _)
  refine Ev.step (fun k => by simp only [impl_deriv.f]; rfl) (Ev.bind (splitB_ev n x y ho (by omega)) ?_)
  have h3 := arV_2 ho'
  by_cases g : n.f0 = 3
  ·refine Ev.congr (fun k => by rw [if_neg (by omega), if_neg (by omega), if_neg (by omega), if_neg (by omega), if_pos g]) (Ev.bind ihx ?_)
   refine Ev.congr (fun k => by rw [node_v 3 [(x.der r).flat, y.flat] (by simp; omega), Option.bind_some]) (Ev.bind hnul ?_)
   by_cases c : nullT x = true
   ·rw [Pt.der_b1 g c]
    refine Ev.congr (fun k => by rw [if_pos c]) (Ev.bind ihy ?_)
    refine Ev.congr (fun k => by rw [node_v 4 _ (by simp; omega), Option.bind_some]) ?_
    simpa [Pt.flat] using Ev.now _
   ·rw [Pt.der_b2 g c]
    refine Ev.congr (fun k => by rw [if_neg c]) ?_
    simpa [Pt.flat] using Ev.now _
  ·refine Ev.congr (fun k => by rw [if_neg (by omega), if_neg (by omega), if_neg (by omega), if_neg (by omega), if_neg g]) (Ev.bind ihx (Ev.bind ihy ?_))
   refine Ev.congr (fun k => by rw [node_v n.f0 [(x.der r).flat, (y.der r).flat] (by simp; omega), Option.bind_some]) ?_
   rw [show (Pt.b n x y).der r = .b (nd n.f0) (x.der r) (y.der r) from if_neg g]
   simpa [Pt.flat] using Ev.now _
theorem specPart_ev (L : List S49) (hL : L.length ≤ 1000) (hr : ∀ x ∈ L, x.f1.length ≤ 1048576) : ∀ (t : Pt), t.ok → ∀ (pre post : List S49), L = pre ++ (t.flat ++ post) → Ev (fun k => spec_l5Part.f k L ((pre.length : Int) + (t.flat.length : Int) - 1)) t.flat := by
 intro t
 induction t with
 | l n =>
  intro ho pre post e
  have ho' : arV n.f0 = 0 := ho
  have e2 : L = pre ++ (n :: post) := by simpa [Pt.flat] using e
  have hl : pre.length < L.length := by rw [e2]; simp
  have ei : (pre.length : Int) + ((Pt.l n).flat.length : Int) - 1 = (pre.length : Int) := by simp only [Pt.flat, List.length_singleton]; omega
  have ew : wrap64 ((pre.length : Int) + 1) = ((pre.length + 1 : Nat) : Int) := by rw [wr _ (by omega) (by omega)]; omega
  rw [ei]
  refine Ev.step (fun k => by simp only [spec_l5Part.f]; rw [if_pos (by omega), if_pos (by omega), rd_root pre post n L _ e2 rfl]) (Ev.bind (specAr_ev n.f0) ?_)
  refine Ev.congr (fun k => by rw [ho', if_neg (by omega), if_neg (by omega), ew, if_pos (by omega), if_pos (by omega), cut_one pre post n L e2]) (Ev.bind (specOwn_ev [n] (by simp) (fun x hx => by rw [List.mem_singleton] at hx; subst hx; exact hr x (by rw [e2]; simp))) (Ev.now _))
 | u n a ih =>
  intro ho pre post e
  have ho' : arV n.f0 = 1 := ho.1
  have e2 : L = (pre ++ a.flat) ++ (n :: post) := by simpa [Pt.flat] using e
  have hl : (pre ++ a.flat).length < L.length := by rw [e2]; simp
  have ha := a.flat_pos
  have ei : (pre.length : Int) + ((Pt.u n a).flat.length : Int) - 1 = ((pre ++ a.flat).length : Int) := by simp only [Pt.flat, List.length_append, List.length_singleton]; omega
  have hl2 := hl
  simp only [List.length_append] at hl2
  have ew : wrap64 (((pre ++ a.flat).length : Int) - 1) = (pre.length : Int) + (a.flat.length : Int) - 1 := by rw [wr _ (by omega) (by omega)]; simp
  have ew1 : wrap64 (((pre ++ a.flat).length : Int) + 1) = (pre.length : Int) + ((Pt.u n a).flat.length : Int) := by rw [wr _ (by omega) (by omega)]; omega
  have ew2 : wrap64 (((pre ++ a.flat).length : Int) - (a.flat.length : Int)) = (pre.length : Int) := by rw [wr _ (by simp only [List.length_append]; omega) (by simp only [List.length_append]; omega)]; simp only [List.length_append]; omega
  have eL := congrArg List.length e
  simp only [List.length_append] at eL
  rw [ei]
  refine Ev.step (fun k => by simp only [spec_l5Part.f]; rw [if_pos (by omega), if_pos (by omega), rd_root (pre ++ a.flat) post n L _ e2 rfl]) (Ev.bind (specAr_ev n.f0) ?_)
  refine Ev.congr (fun k => by rw [ho', if_pos rfl, ew]) (Ev.bind (ih ho.2 pre (n :: post) (by simpa [Pt.flat] using e)) ?_)
  refine Ev.congr (fun k => by rw [ew1, ew2, if_pos (by omega), if_pos (by omega), if_pos (by omega), cut_mid pre (Pt.u n a).flat post L e _ _ rfl rfl]) (Ev.bind (specOwn_ev _ (by omega) (fun x hx => hr x (by rw [e]; simp [hx]))) (Ev.now _))
 | b n x y ihx ihy =>
  intro ho pre post e
  have ho' : arV n.f0 = 2 := ho.1
  have e2 : L = (pre ++ (x.flat ++ y.flat)) ++ (n :: post) := by simpa [Pt.flat] using e
  have hl : (pre ++ (x.flat ++ y.flat)).length < L.length := by rw [e2]; simp
  have hx := x.flat_pos
  have hy := y.flat_pos
  have ei : (pre.length : Int) + ((Pt.b n x y).flat.length : Int) - 1 = ((pre ++ (x.flat ++ y.flat)).length : Int) := by simp only [Pt.flat, List.length_append, List.length_singleton]; omega
  have hl2 := hl
  simp only [List.length_append] at hl2
  have ew1 : wrap64 (((pre ++ (x.flat ++ y.flat)).length : Int) + 1) = (pre.length : Int) + ((Pt.b n x y).flat.length : Int) := by rw [wr _ (by omega) (by omega)]; omega
  have ew2 : wrap64 ((wrap64 ((pre.length : Int) + (x.flat.length : Int) - 1 - (x.flat.length : Int))) + 1) = (pre.length : Int) := by rw [wr ((pre.length : Int) + (x.flat.length : Int) - 1 - (x.flat.length : Int)) (by omega) (by omega), wr _ (by omega) (by omega)]; omega
  have eL := congrArg List.length e
  simp only [List.length_append] at eL
  have hf : Ev (fun k => spec_l5First.f k L ((pre ++ (x.flat ++ y.flat)).length : Int)) ((pre.length : Int) + (x.flat.length : Int) - 1) := by
   have := first_ev pre post n x y ho.2.2 (by simp only [List.length_append, List.length_cons] at hl ⊢; have := congrArg List.length e; simp only [Pt.flat, List.length_append, List.length_singleton] at this; omega)
   refine Ev.congr (fun k => ?_) this
   rw [e]
   simp [Pt.flat]
   congr 1
   omega
  have hpx := ihx ho.2.1 pre (y.flat ++ n :: post) (by simpa [Pt.flat] using e)
  rw [ei]
  refine Ev.step (fun k => by simp only [spec_l5Part.f]; rw [if_pos (by omega), if_pos (by omega), rd_root (pre ++ (x.flat ++ y.flat)) post n L _ e2 rfl]) (Ev.bind (specAr_ev n.f0) ?_)
  refine Ev.congr (fun k => by rw [ho', if_neg (by omega), if_pos rfl]) (Ev.bind hf (Ev.bind hpx ?_))
  refine Ev.congr (fun k => by rw [ew1, ew2, if_pos (by omega), if_pos (by omega), if_pos (by omega), cut_mid pre (Pt.b n x y).flat post L e _ _ rfl rfl]) (Ev.bind (specOwn_ev _ (by omega) (fun x hx => hr x (by rw [e]; simp [hx]))) (Ev.now _))
theorem specDer_ev (r : Int) (L : List S49) (hL : L.length ≤ 40) (hr : ∀ x ∈ L, x.f1.length ≤ 1048576) : ∀ (t : Pt), t.ok → t.sets → ∀ (pre post : List S49), L = pre ++ (t.flat ++ post) → Ev (fun k => spec_l5Deriv.f k L ((pre.length : Int) + (t.flat.length : Int) - 1) r) (t.der r).flat := by
 intro t
 induction t with
 | l n =>
  intro ho hs pre post e
  have ho' : arV n.f0 = 0 := ho
  have hn := sets_len hs n (by simp [Pt.flat])
  have e2 : L = pre ++ (n :: post) := by simpa [Pt.flat] using e
  have hl : pre.length < L.length := by rw [e2]; simp
  have ei : (pre.length : Int) + ((Pt.l n).flat.length : Int) - 1 = (pre.length : Int) := by simp only [Pt.flat, List.length_singleton]; omega
  rw [ei]
  refine Ev.step (fun k => by simp only [spec_l5Deriv.f]; rw [if_pos (by omega), if_pos (by omega), rd_root pre post n L _ e2 rfl]) ?_
  rcases arV_0 ho' with g | g
  ·refine Ev.congr (fun k => by rw [if_pos g, specNone_v, Option.bind_some]) ?_
   rw [show (Pt.l n).der r = .l (nd 2) from if_pos g]
   exact Ev.now _
  ·refine Ev.congr (fun k => by rw [if_neg (by omega), if_pos g]) (Ev.bind (specIn_ev n.f1 r (by omega) (even_of (Pt.sets_l.1 hs))) ?_)
   by_cases c : memV r n.f1 = true
   ·rw [Pt.der_l2 (by omega) c]
    exact Ev.congr (fun k => by rw [if_pos c]; rfl) (Ev.now _)
   ·rw [Pt.der_l3 (by omega) c]
    exact Ev.congr (fun k => by rw [if_neg c, specNone_v, Option.bind_some]; rfl) (Ev.now _)
 | u n a ih =>
  intro ho hs pre post e
  have ho' : arV n.f0 = 1 := ho.1
  have hsa := (Pt.sets_u.1 hs).1
  have e2 : L = (pre ++ a.flat) ++ (n :: post) := by simpa [Pt.flat] using e
  have hl : (pre ++ a.flat).length < L.length := by rw [e2]; simp
  have ha := a.flat_pos
  have ei : (pre.length : Int) + ((Pt.u n a).flat.length : Int) - 1 = ((pre ++ a.flat).length : Int) := by simp only [Pt.flat, List.length_append, List.length_singleton]; omega
  have hl2 := hl
  simp only [List.length_append] at hl2
  have hd := a.der_len r (by omega)
  have hpart := specPart_ev L (by omega) hr (.u n a) ho pre post e
  rw [ei] at hpart
  have hfl : (Pt.u n a).flat.length = a.flat.length + 1 := by simp [Pt.flat]
  have ew : wrap64 (((pre ++ a.flat).length : Int) - 1) = (pre.length : Int) + (a.flat.length : Int) - 1 := by rw [wr _ (by omega) (by omega)]; simp
  rw [ei]
  have hih := ih ho.2 hsa pre (n :: post) (by simpa [Pt.flat] using e)
  refine Ev.step (fun k => by simp only [spec_l5Deriv.f]; rw [if_pos (by omega), if_pos (by omega), rd_root (pre ++ a.flat) post n L _ e2 rfl, ew]) ?_
  rcases arV_1 ho' with g | g
  ·refine Ev.congr (fun k => by rw [if_neg (by omega), if_neg (by omega), if_neg (by omega), if_pos g]) (Ev.bind hih (Ev.bind hpart ?_))
   refine Ev.congr (fun k => by rw [if_pos (by omega), Option.bind_some, Option.bind_some, if_pos (by simp only [List.length_append, List.length_singleton]; omega)]) ?_
   rw [show (Pt.u n a).der r = .b (nd 3) (a.der r) (.u n a) from if_pos g]
   simpa [Pt.flat, nd] using Ev.now _
  ·refine Ev.congr (fun k => by rw [if_neg (by omega), if_neg (by omega), if_pos g]) (Ev.bind hih ?_)
   refine Ev.congr (fun k => by rw [Option.bind_some, if_pos (by simp only [List.length_singleton]; omega)]) ?_
   rw [show (Pt.u n a).der r = .u (nd 7) (a.der r) from if_neg (by omega)]
   simpa [Pt.flat, nd] using Ev.now _
 | b n x y ihx ihy =>
  intro ho hs pre post e
  have ho' : arV n.f0 = 2 := ho.1
  obtain ⟨hsx, hsy, _⟩ := Pt.sets_b.1 hs
  have e2 : L = (pre ++ (x.flat ++ y.flat)) ++ (n :: post) := by simpa [Pt.flat] using e
  have hl : (pre ++ (x.flat ++ y.flat)).length < L.length := by rw [e2]; simp
  have hx := x.flat_pos
  have hy := y.flat_pos
  have ei : (pre.length : Int) + ((Pt.b n x y).flat.length : Int) - 1 = ((pre ++ (x.flat ++ y.flat)).length : Int) := by simp only [Pt.flat, List.length_append, List.length_singleton]; omega
  have hl2 := hl
  simp only [List.length_append] at hl2
  have hdx := x.der_len r (by omega)
  have hdy := y.der_len r (by omega)
  have ew : wrap64 (((pre ++ (x.flat ++ y.flat)).length : Int) - 1) = ((pre ++ x.flat).length : Int) + (y.flat.length : Int) - 1 := by rw [wr _ (by omega) (by omega)]; simp; omega
  have hf : Ev (fun k => spec_l5First.f k L ((pre ++ (x.flat ++ y.flat)).length : Int)) ((pre.length : Int) + (x.flat.length : Int) - 1) := by
   have := first_ev pre post n x y ho.2.2 (by simp only [List.length_append, List.length_cons] at hl ⊢; have := congrArg List.length e; simp only [Pt.flat, List.length_append, List.length_singleton] at this; omega)
   refine Ev.congr (fun k => ?_) this
   rw [e]
   simp [Pt.flat]
   congr 1
   omega
  have hdx' := ihx ho.2.1 hsx pre (y.flat ++ n :: post) (by simpa [Pt.flat] using e)
  have hdy' := ihy ho.2.2 hsy (pre ++ x.flat) (n :: post) (by simpa [Pt.flat] using e)
  rw [← ew] at hdy'
  have hpx := specPart_ev L (by omega) hr x ho.2.1 pre (y.flat ++ n :: post) (by simpa [Pt.flat] using e)
  have hpy := specPart_ev L (by omega) hr y ho.2.2 (pre ++ x.flat) (n :: post) (by simpa [Pt.flat] using e)
  rw [← ew] at hpy
  have hnul : Ev (fun k => spec_l5Matches.f k x.flat ([] : List Int)) (nullT x) := matches_ev ho.2.1 hsx (by omega) (sets_len hsx) [] (by simp)
  rw [ei]
  have h3 := arV_2 ho'
  refine Ev.step (fun k => by simp only [spec_l5Deriv.f]; rw [if_pos (by omega), if_pos (by omega), rd_root (pre ++ (x.flat ++ y.flat)) post n L _ e2 rfl, if_neg (by omega), if_neg (by omega), if_neg (by omega), if_neg (by omega)]) (Ev.bind hf (Ev.bind hdx' ?_))
  by_cases g : n.f0 = 3
  ·refine Ev.congr (fun k => by rw [if_pos g]) (Ev.bind hpy ?_)
   refine Ev.congr (fun k => by rw [if_pos (by omega), Option.bind_some, Option.bind_some, if_pos (by simp only [List.length_append, List.length_singleton]; omega), Option.bind_some]) (Ev.bind hpx (Ev.bind hnul ?_))
   by_cases c : nullT x = true
   ·rw [Pt.der_b1 g c]
    refine Ev.congr (fun k => by rw [if_pos c]) (Ev.bind hdy' ?_)
    refine Ev.congr (fun k => by rw [if_pos (by simp only [List.length_append, List.length_singleton]; omega), Option.bind_some, Option.bind_some, if_pos (by simp only [List.length_append, List.length_singleton]; omega)]) ?_
    simpa [Pt.flat, nd] using Ev.now _
   ·rw [Pt.der_b2 g c]
    refine Ev.congr (fun k => by rw [if_neg c]) ?_
    simpa [Pt.flat, nd] using Ev.now _
  ·refine Ev.congr (fun k => by rw [if_neg g]) (Ev.bind hdy' ?_)
   refine Ev.congr (fun k => by rw [if_pos (by omega), Option.bind_some, Option.bind_some, if_pos (by simp only [List.length_append, List.length_singleton]; omega)]) ?_
   rw [show (Pt.b n x y).der r = .b (nd n.f0) (x.der r) (y.der r) from if_neg g]
   simpa [Pt.flat, nd] using Ev.now _
theorem derRe_both (l : List S49) (r : Int) (hl : l.length ≤ 1048576) (hr : ∀ x ∈ l, x.f1.length ≤ 1048576) : ∃ R : List S49 × Bool, (R.1.length ≤ 1000 ∧ ∀ x ∈ R.1, x.f1.length ≤ 1048576) ∧ Ev (fun k => spec_DerivRe.f k l r) R ∧ Ev (fun k => impl_DerivRe.f k l r) R := by
 have hs := specGoodRe_ev l hl hr
 have hi := implGoodRe_ev l hl hr
 have no : ∃ R : List S49 × Bool, R = ([], false) ∧ (R.1.length ≤ 1000 ∧ ∀ x ∈ R.1, x.f1.length ≤ 1048576) := ⟨_, rfl, by simp, by simp⟩
 have sj : ∀ R, (R = ([], false)) → Ev (fun k => spec_DerivRe.j0 k l r true) R := fun R e => by
  subst e
  exact Ev.step (fun k => by rw [spec_DerivRe.j0, if_pos rfl]) (Ev.now _)
 have ij : ∀ R, (R = ([], false)) → Ev (fun k => impl_DerivRe.j0 k l r true) R := fun R e => by
  subst e
  exact Ev.step (fun k => by rw [impl_DerivRe.j0, if_pos rfl]) (Ev.now _)
 cases hg : GoodRV l with
 | false =>
  rw [hg] at hs hi
  refine ⟨([], false), ⟨by simp, by simp⟩, ?_, ?_⟩
  ·unfold spec_DerivRe.f
   exact Ev.bind hs (Ev.congr (fun k => by rw [if_neg (by simp)]) (sj _ rfl))
  ·unfold impl_DerivRe.f
   exact Ev.bind hi (Ev.congr (fun k => by rw [if_neg (by simp)]) (ij _ rfl))
 | true =>
  rw [hg] at hs hi
  cases hq : isR r with
  | false =>
   refine ⟨([], false), ⟨by simp, by simp⟩, ?_, ?_⟩
   ·unfold spec_DerivRe.f
    exact Ev.bind hs (Ev.congr (fun k => by rw [if_pos rfl, gr_s, hq, Option.bind_some]; rfl) (sj _ rfl))
   ·unfold impl_DerivRe.f
    exact Ev.bind hi (Ev.congr (fun k => by rw [if_pos rfl, gr_i, hq, Option.bind_some]; rfl) (ij _ rfl))
  | true =>
   obtain ⟨t, ho, hst, e, h40⟩ := good_tree hg
   subst e
   have s0 : ∀ R, Ev (fun k => spec_DerivRe.j0 k t.flat r false) R → Ev (fun k => spec_DerivRe.f k t.flat r) R := fun R h => by
    unfold spec_DerivRe.f
    exact Ev.bind hs (Ev.congr (f := fun k => spec_DerivRe.j0 k t.flat r false) (fun k => by rw [if_pos rfl, gr_s, hq, Option.bind_some] <;> rfl) h)
   have i0 : ∀ R, Ev (fun k => impl_DerivRe.j0 k t.flat r false) R → Ev (fun k => impl_DerivRe.f k t.flat r) R := fun R h => by
    unfold impl_DerivRe.f
    exact Ev.bind hi (Ev.congr (f := fun k => impl_DerivRe.j0 k t.flat r false) (fun k => by rw [if_pos rfl, gr_i, hq, Option.bind_some] <;> rfl) h)
   have hpos := t.flat_pos
   have dl := t.der_len r h40
   have dok := t.der_ok r ho
   have dst := t.der_sets r hst
   have dpos := (t.der r).flat_pos
   have dsl := sets_len dst
   have hsd := specDer_ev r t.flat h40 hr t ho hst [] [] (by simp)
   have hid := implDer_ev r t ho hst h40
   have sg := specGoodRe_ev (t.der r).flat (by omega) dsl
   have ig := implGoodRe_ev (t.der r).flat (by omega) dsl
   have hsd2 : Ev (fun k => spec_l5Deriv.f k t.flat (wrap64 ((t.flat.length : Int) - 1)) r) (t.der r).flat := by
    refine Ev.congr (fun k => ?_) hsd
    rw [wr _ (by omega) (by omega)]
    simp
   rw [tree_good dok dst] at sg ig
   by_cases c : (t.der r).flat.length ≤ 40
   ·rw [decide_eq_true c] at sg ig
    have htl := (t.der r).tid_len dok dst
    have hrs := isTree_Sm ((t.der r).tid_tree dok dst)
    refine ⟨((t.der r).tid, true), ⟨by simp only; omega, hrs⟩, ?_, ?_⟩
    ·refine s0 _ ?_
     refine Ev.step (fun k => by rw [spec_DerivRe.j0, if_neg (by simp)]) (Ev.bind hsd2 (Ev.bind sg ?_))
     refine Ev.congr (fun k => by rw [if_pos rfl]) ?_
     have := specTidy_ev (t.der r).flat (by omega) dsl (t.der r) dok dst [] [] (by simp)
     refine Ev.bind (Ev.congr (fun k => ?_) this) (Ev.bind (specOwn_ev _ (by omega) hrs) (Ev.now _))
     rw [wr _ (by omega) (by omega)]
     simp
    ·refine i0 _ ?_
     refine Ev.step (fun k => by rw [impl_DerivRe.j0, if_neg (by simp)]) (Ev.bind hid (Ev.bind ig ?_))
     refine Ev.congr (fun k => by rw [if_pos rfl]) ?_
     exact Ev.bind (implTidy_ev (t.der r) dok dst (by omega)) (Ev.bind (clonePat_ev (t.der r).tid (by omega) hrs) (Ev.now _))
   ·rw [decide_eq_false c] at sg ig
    refine ⟨([], false), ⟨by simp, by simp⟩, ?_, ?_⟩
    ·refine s0 _ ?_
     refine Ev.step (fun k => by rw [spec_DerivRe.j0, if_neg (by simp)]) (Ev.bind hsd2 (Ev.bind sg ?_))
     exact Ev.congr (fun k => by rw [if_neg (by simp)]) (Ev.now _)
    ·refine i0 _ ?_
     refine Ev.step (fun k => by rw [impl_DerivRe.j0, if_neg (by simp)]) (Ev.bind hid (Ev.bind ig ?_))
     exact Ev.congr (fun k => by rw [if_neg (by simp)]) (Ev.now _)
theorem FnExactDerivRe (l : List S48) (r : Int) (hl : l.length ≤ 9223372036854775807) (hr : ∀ x ∈ l, x.f1.length ≤ 9223372036854775807) : ∃ k, laws_FnExactDerivRe.f k l r = some true := by
 refine Ev.rounds (r := true) ?_
 unfold laws_FnExactDerivRe.f
 obtain ⟨v, e1, e2⟩ := szReS_ev l hl hr
 refine Ev.bind e1 ?_
 by_cases h : v < 0
 ·exact Ev.congr (fun k => by rw [if_pos h]) (Ev.now true)
 ·have hs := e2.resolve_left h
  obtain ⟨m1, m2⟩ := small_map l hs
  obtain ⟨R, ⟨r1, r2⟩, cs, ci⟩ := derRe_both (l.map toI) r m1 m2
  have tx := totRe_le 1048576 (l.map toI) (fun x hx => by have := m2 x hx; omega)
  have tr := totRe_le 1048576 R.1 (fun x hx => by have := r2 x hx; omega)
  have px := totRe_pos (l.map toI)
  have pr := totRe_pos R.1
  refine Ev.congr (fun k => by rw [if_neg h]) (Ev.bind (toReS_ev l hs) (Ev.bind cs (Ev.bind ci ?_)))
  refine Ev.bind (eqReS_ev R.1 (by omega) r2) (Ev.bind (eqReS_ev (l.map toI) m1 m2) (Ev.bind (markRe_ev (l.map toI) (by omega) (by omega)) (Ev.bind (markRe_ev R.1 (by omega) (by omega)) (Ev.bind (heldRe_ev R.1 (by omega) (by omega)) ?_))))
  exact Ev.congr (fun k => by rw [if_pos rfl, if_pos rfl, if_pos rfl, if_neg (by simp only; omega), if_neg (by omega), if_pos rfl]) (Ev.now true)

end Go.Proofs.Ytlmpeaelpchokaa.Pure
