/-
  For every input the law FnExactFoldRe returns true; no condition.
-/
import Derived.Test.YtlmpeaelpchokaaHFnExactFoldRex19
namespace Go.Proofs.Ytlmpeaelpchokaa.Pure
open Go.RowKit Go.Proofs.Ytlmpeaelpchokaa.HFnExactFoldRe Go.Proofs.YtlmpeaelpchokaaW.PrintWords Go.Proofs.YtlmpeaelpchokaaW.PrintLast
set_option linter.unusedSimpArgs false
set_option linter.unusedVariables false
theorem wr (i : Int) (h0 : -9223372036854775808 ≤ i) (h1 : i ≤ 9223372036854775807) : wrap64 i = i := by unfold wrap64; omega

theorem rd_nat (l : List Int) (j : Nat) : rd l (j : Int) = l.getD j 0 := by unfold rd; simp

theorem getD_at (l : List Int) (j : Nat) (h : j < l.length) : l.getD j 0 = l[j] := by simp [List.getD_eq_getElem?_getD, h]

theorem rd_at (l : List Int) (j : Nat) (h : j < l.length) : rd l (j : Int) = l[j] := by rw [rd_nat, getD_at l j h]

theorem drop_at (l : List Int) (j : Nat) (h : j < l.length) : l.drop j = l[j] :: l.drop (j + 1) := List.drop_eq_getElem_cons h

theorem toIntS_l (l : List Int) (hl : l.length ≤ 17592186044416) : ∀ (d j : Nat) (o : List Int), j + d = l.length → o.length = l.length → (∀ i, i < j → o.getD i 0 = l.getD i 0) → Ev (fun k => laws_toIntS.l0 k l o (j : Int)) l := by
  intro d
  induction d with
  | zero =>
    intro j o hj ho he
    refine Ev.step (f := fun _ => some l) (fun k => ?_) (Ev.now l)
    simp only [laws_toIntS.l0]
    rw [if_neg (by omega)]
    congr 1
    refine List.ext_getElem (by omega) fun i h1 h2 => ?_
    have := he i (by omega)
    rwa [getD_at o i h1, getD_at l i h2] at this
  | succ d ih =>
    intro j o hj ho he
    refine Ev.step (f := fun k => laws_toIntS.l0 k l (o.set j (l.getD j 0)) ((j + 1 : Nat) : Int)) (fun k => ?_) (ih (j + 1) _ (by omega) (by rw [List.length_set]; exact ho) fun i hi => ?_)
    · simp only [laws_toIntS.l0]
      rw [if_pos (by omega), if_pos (by omega), if_pos (by omega), wr _ (by omega) (by omega), rd_nat]
      simp
    · by_cases e : i = j
      · subst e
        rw [getD_at _ _ (by rw [List.length_set]; omega)]
        simp
      · rw [← he i (by omega)]
        simp [List.getD_eq_getElem?_getD, List.getElem?_set, Ne.symm e]

theorem toIntS_ev (l : List Int) (hl : l.length ≤ 17592186044416) : Ev (fun k => laws_toIntS.f k l) l := by
  refine Ev.congr (f := fun k => laws_toIntS.l0 k l (List.replicate l.length 0) ((0 : Nat) : Int)) (fun k => ?_) (toIntS_l l hl l.length 0 _ (by omega) (by simp) (fun i hi => by omega))
  unfold laws_toIntS.f
  rw [if_pos (by omega), if_pos (by omega)]
  simp

theorem eqIntS_l (a b : List Int) (hab : a.length = b.length) (hl : a.length ≤ 17592186044416) : ∀ (d j : Nat), j + d = a.length → a.take j = b.take j → Ev (fun k => laws_eqIntS.l0 k a b (j : Int)) (decide (a = b)) := by
  intro d
  induction d with
  | zero =>
    intro j hj ht
    refine Ev.step (f := fun _ => some (decide (a = b))) (fun k => ?_) (Ev.now _)
    simp only [laws_eqIntS.l0]
    rw [if_neg (by omega)]
    rw [List.take_of_length_le (by omega), List.take_of_length_le (by omega)] at ht
    simp [ht]
  | succ d ih =>
    intro j hj ht
    by_cases e : a[j]'(by omega) = b[j]'(by omega)
    · refine Ev.step (f := fun k => laws_eqIntS.l0 k a b ((j + 1 : Nat) : Int)) (fun k => ?_) (ih (j + 1) (by omega) ?_)
      · simp only [laws_eqIntS.l0]
        rw [if_pos (by omega), if_pos (by omega), if_pos (by omega), rd_at a j (by omega), rd_at b j (by omega), if_pos e, wr _ (by omega) (by omega)]
        simp
      · rw [List.take_succ_eq_append_getElem (by omega), List.take_succ_eq_append_getElem (by omega), ht, e]
    · refine Ev.step (f := fun _ => some (decide (a = b))) (fun k => ?_) (Ev.now _)
      simp only [laws_eqIntS.l0]
      rw [if_pos (by omega), if_pos (by omega), if_pos (by omega), rd_at a j (by omega), rd_at b j (by omega), if_neg e]
      have : ¬ a = b := fun h => e (by subst h; rfl)
      simp [this]

theorem eqIntS_ev (a b : List Int) (hl : a.length ≤ 17592186044416) : Ev (fun k => laws_eqIntS.f k a b) (decide (a = b)) := by
  by_cases h : a.length = b.length
  · refine Ev.congr (f := fun k => laws_eqIntS.l0 k a b ((0 : Nat) : Int)) (fun k => ?_) (eqIntS_l a b h hl a.length 0 (by omega) (by simp))
    unfold laws_eqIntS.f
    rw [if_pos (by omega)]
    simp
  · refine Ev.congr (f := fun _ => some (decide (a = b))) (fun k => ?_) (Ev.now _)
    unfold laws_eqIntS.f
    rw [if_neg (by omega)]
    have : ¬ a = b := fun e => h (by rw [e])
    simp [this]

/-- Within bounds. -/
def inB (lo hi n : Int) : Bool := decide (lo ≤ n ∧ n ≤ hi)
theorem inB_iff (lo hi n : Int) : inB lo hi n = true ↔ lo ≤ n ∧ n ≤ hi := by simp [inB]

theorem in_s (a b c : Int) : spec_l1In.f a b c = some (inB b c a) := by
  unfold spec_l1In.f inB
  by_cases h : a ≥ b
  · rw [if_pos h]; simp [show b ≤ a from h]
  · rw [if_neg h]; simp [show ¬ b ≤ a from h]

theorem in_i (a b c : Int) : impl_inRange.f a b c = some (inB b c a) := by
  unfold impl_inRange.f inB
  by_cases h : b ≤ a
  · rw [if_pos h]; simp [h]
  · rw [if_neg h]; simp [h]

def isR (a : Int) : Bool := inB 0 1114111 a && !inB 55296 57343 a
theorem gr_s (a : Int) : spec_GoodRune.f a = some (isR a) := by
  unfold spec_GoodRune.f isR
  rw [in_s, in_s]
  simp only [Option.bind_some]
  cases inB 0 1114111 a <;> simp

theorem gr_i (a : Int) : impl_GoodRune.f a = some (isR a) := by
  unfold impl_GoodRune.f isR
  rw [in_i, in_i]
  simp only [Option.bind_some]
  cases inB 0 1114111 a <;> simp

def iota (m : Int) (n : Nat) : List Int := (List.range n).map fun (i : Nat) => m + (i : Int)
theorem iota_length (m : Int) (n : Nat) : (iota m n).length = n := by simp [iota]
theorem iota_get (m : Int) (n i : Nat) (h : i < n) : (iota m n).getD i 0 = m + (i : Int) := by simp [iota, List.getD_eq_getElem?_getD, h]

theorem markIntS_l (m : Int) (n : Nat) (hm : 0 ≤ m) (hn : m + (n : Int) ≤ 4611686018427387904) : ∀ (d j : Nat) (o : List Int), j + d = n → o.length = n → (∀ i, i < j → o.getD i 0 = m + (i : Int)) → Ev (fun k => laws_markIntS.l0 k o (m + (j : Int)) (j : Int)) (m + (n : Int), iota m n) := by
  intro d
  induction d with
  | zero =>
    intro j o hj ho he
    refine Ev.step (f := fun _ => some (m + (n : Int), iota m n)) (fun k => ?_) (Ev.now _)
    simp only [laws_markIntS.l0]
    rw [if_neg (by omega)]
    have e : o = iota m n := by
      refine List.ext_getElem (by rw [iota_length]; exact ho) fun i h1 h2 => ?_
      have h3 := he i (by omega)
      rw [← iota_get m n i (by omega), getD_at o i h1, getD_at _ i h2] at h3
      exact h3
    rw [e, show j = n from by omega]
  | succ d ih =>
    intro j o hj ho he
    refine Ev.step (f := fun k => laws_markIntS.l0 k (o.set j (m + (j : Int))) (m + ((j + 1 : Nat) : Int)) ((j + 1 : Nat) : Int)) (fun k => ?_) (ih (j + 1) _ (by omega) (by rw [List.length_set]; exact ho) fun i hi => ?_)
    · simp only [laws_markIntS.l0]
      rw [if_pos (by omega), if_pos (by omega), wr ((j : Int) + 1) (by omega) (by omega), wr (m + (j : Int) + 1) (by omega) (by omega)]
      simp [Int.add_assoc]
    · by_cases e : i = j
      · subst e
        rw [getD_at _ _ (by rw [List.length_set]; omega)]
        simp
      · rw [← he i (by omega)]
        simp [List.getD_eq_getElem?_getD, List.getElem?_set, Ne.symm e]

theorem markIntS_ev (l : List Int) (m : Int) (hm : 0 ≤ m) (hn : m + (l.length : Int) ≤ 4611686018427387904) : Ev (fun k => laws_markIntS.f k l m) (m + (l.length : Int), iota m l.length) :=
  Ev.congr (fun k => by unfold laws_markIntS.f; simp) (markIntS_l m l.length hm hn l.length 0 l (by omega) rfl (fun i hi => by omega))

theorem heldIntS_l (m : Int) (n : Nat) (hm : 0 ≤ m) (hn : m + (n : Int) ≤ 4611686018427387904) : ∀ (d j : Nat), j + d = n → Ev (fun k => laws_heldIntS.l0 k (iota m n) (m + (j : Int)) (j : Int)) (m + (n : Int)) := by
  intro d
  induction d with
  | zero =>
    intro j hj
    refine Ev.step (f := fun _ => some (m + (n : Int))) (fun k => ?_) (Ev.now _)
    simp only [laws_heldIntS.l0]
    rw [if_neg (by rw [iota_length]; omega), show j = n from by omega]
  | succ d ih =>
    intro j hj
    refine Ev.step (f := fun k => laws_heldIntS.l0 k (iota m n) (m + ((j + 1 : Nat) : Int)) ((j + 1 : Nat) : Int)) (fun k => ?_) (ih (j + 1) (by omega))
    simp only [laws_heldIntS.l0]
    rw [if_pos (by rw [iota_length]; omega), if_pos (by omega), rd_nat, iota_get m n j (by omega), if_pos rfl, wr ((j : Int) + 1) (by omega) (by omega), wr (m + (j : Int) + 1) (by omega) (by omega)]
    simp [Int.add_assoc]

theorem heldIntS_ev (m : Int) (n : Nat) (hm : 0 ≤ m) (hn : m + (n : Int) ≤ 4611686018427387904) : Ev (fun k => laws_heldIntS.f k (iota m n) m) (m + (n : Int)) :=
  Ev.congr (fun k => by unfold laws_heldIntS.f; simp) (heldIntS_l m n hm hn n 0 (by omega))

theorem specAllRunes_l (l : List Int) (hl : l.length ≤ 17592186044416) : ∀ (d j : Nat), j + d = l.length → Ev (fun k => spec_l1AllRunes.l0 k l l (l.length : Int) (j : Int)) ((l.drop j).all isR && decide (l.length ≤ 1000)) := by
  intro d
  induction d with
  | zero =>
    intro j hj
    refine Ev.step (f := fun _ => some ((l.drop j).all isR && decide (l.length ≤ 1000))) (fun k => ?_) (Ev.now _)
    simp only [spec_l1AllRunes.l0]
    rw [if_neg (by omega), List.drop_of_length_le (by omega)]
    simp
    omega
  | succ d ih =>
    intro j hj
    rw [drop_at l j (by omega), List.all_cons]
    cases e : isR (l[j]'(by omega)) with
    | true =>
      refine Ev.step (f := fun k => spec_l1AllRunes.l0 k l l (l.length : Int) ((j + 1 : Nat) : Int)) (fun k => ?_) (by simpa using ih (j + 1) (by omega))
      simp only [spec_l1AllRunes.l0]
      rw [if_pos (by omega), if_pos (by omega), if_pos (by omega), rd_at l j (by omega), gr_s, wr _ (by omega) (by omega), e]
      simp
    | false =>
      refine Ev.step (f := fun _ => some false) (fun k => ?_) (by simpa using Ev.now false)
      simp only [spec_l1AllRunes.l0]
      rw [if_pos (by omega), if_pos (by omega), if_pos (by omega), rd_at l j (by omega), gr_s, e]
      simp

theorem specAllRunes_ev (l : List Int) (hl : l.length ≤ 17592186044416) : Ev (fun k => spec_l1AllRunes.f k l) (l.all isR && decide (l.length ≤ 1000)) :=
  Ev.congr (fun k => by unfold spec_l1AllRunes.f; rfl) (by simpa using specAllRunes_l l hl l.length 0 (by omega))

theorem l1All_l (lo hi : Int) (l : List Int) (hl : l.length ≤ 17592186044416) : ∀ (d j : Nat), j + d = l.length → Ev (fun k => spec_l1All.l0 k lo hi l (l.length : Int) (j : Int)) ((l.drop j).all (inB lo hi)) := by
  intro d
  induction d with
  | zero =>
    intro j hj
    refine Ev.step (f := fun _ => some ((l.drop j).all (inB lo hi))) (fun k => ?_) (Ev.now _)
    simp only [spec_l1All.l0]
    rw [if_neg (by omega), List.drop_of_length_le (by omega)]
    rfl
  | succ d ih =>
    intro j hj
    cases e : inB lo hi (l[j]'(by omega)) with
    | true =>
      refine Ev.step (f := fun k => spec_l1All.l0 k lo hi l (l.length : Int) ((j + 1 : Nat) : Int)) (fun k => ?_) ?_
      · simp only [spec_l1All.l0]
        rw [if_pos (by omega), if_pos (by omega), if_pos (by omega), rd_at l j (by omega), in_s, wr _ (by omega) (by omega), e]
        simp
      · rw [drop_at l j (by omega), List.all_cons, e, Bool.true_and]
        exact ih (j + 1) (by omega)
    | false =>
      refine Ev.step (f := fun _ => some ((l.drop j).all (inB lo hi))) (fun k => ?_) (Ev.now _)
      simp only [spec_l1All.l0]
      rw [if_pos (by omega), if_pos (by omega), if_pos (by omega), rd_at l j (by omega), in_s, e, drop_at l j (by omega), List.all_cons, e]
      simp

theorem l1All_ev (l : List Int) (hl : l.length ≤ 17592186044416) (lo hi : Int) : Ev (fun k => spec_l1All.f k l lo hi) (l.all (inB lo hi)) :=
  Ev.congr (fun k => by unfold spec_l1All.f; rfl) (l1All_l lo hi l hl l.length 0 (by omega))

/-- A set: pairs, each rising, each two ahead of the last one. -/
def Good : Int → List Int → Bool
  | least, a :: b :: r => decide (least ≤ a) && decide (a ≤ b) && decide (b ≤ 1114111) && Good (b + 2) r
  | _, [] => true
  | _, [_] => false

theorem good_mono (l : List Int) : ∀ (a b : Int), a ≤ b → Good b l = true → Good a l = true := by
  intro a b h hg
  match l with
  | [] => rfl
  | [_] => simp [Good] at hg
  | x :: y :: r =>
    simp only [Good, Bool.and_eq_true, decide_eq_true_eq] at hg ⊢
    exact ⟨⟨⟨by omega, hg.1.1.2⟩, hg.1.2⟩, hg.2⟩

/-- A set, with at most twelve spans. -/
def GoodS (l : List Int) : Bool := Good 0 l && decide (l.length ≤ 24)

theorem good_even (l : List Int) : ∀ a, Good a l = true → l.length % 2 = 0 := by
  match l with
  | [] => intro a _; rfl
  | [_] => intro a h; simp [Good] at h
  | x :: y :: r =>
    intro a h
    simp only [Good, Bool.and_eq_true] at h
    have := good_even r _ h.2
    simp only [List.length_cons]
    omega
termination_by l.length

theorem good_all (l : List Int) : ∀ a, 0 ≤ a → Good a l = true → ∀ x ∈ l, 0 ≤ x ∧ x ≤ 1114111 := by
  match l with
  | [] => intro a _ _ x hx; cases hx
  | [_] => intro a _ h; simp [Good] at h
  | y :: z :: r =>
    intro a ha h x hx
    simp [Good] at h
    simp only [List.mem_cons] at hx
    rcases hx with rfl | rfl | hx
    · omega
    · omega
    · exact good_all r (z + 2) (by omega) h.2 x hx
termination_by l.length

def lst (l : List Int) (j : Nat) : Int := if j = 0 then 0 else l.getD (j - 1) 0 + 2

theorem specSet_l (l : List Int) (hl : l.length ≤ 17592186044416) (hr : ∀ x ∈ l, 0 ≤ x ∧ x ≤ 1114111) : ∀ (d j : Nat), j + 2 * d = l.length → Ev (fun k => spec_GoodSet.l0 k l (j : Int)) (Good (lst l j) (l.drop j)) := by
  intro d
  induction d with
  | zero =>
    intro j hj
    refine Ev.step (f := fun _ => some (Good (lst l j) (l.drop j))) (fun k => ?_) (Ev.now _)
    simp only [spec_GoodSet.l0]
    rw [if_neg (by omega), List.drop_of_length_le (by omega)]
    rfl
  | succ d ih =>
    intro j hj
    have ha : 0 ≤ l[j]'(by omega) ∧ l[j]'(by omega) ≤ 1114111 := hr _ (List.getElem_mem _)
    have hb : 0 ≤ l[j + 1]'(by omega) ∧ l[j + 1]'(by omega) ≤ 1114111 := hr _ (List.getElem_mem _)
    have e1 : wrap64 ((j : Int) + 1) = ((j + 1 : Nat) : Int) := by rw [wr _ (by omega) (by omega)]; omega
    have e2 : wrap64 ((j : Int) + 2) = ((j + 2 : Nat) : Int) := by rw [wr _ (by omega) (by omega)]; omega
    have hd : l.drop j = l[j]'(by omega) :: l[j + 1]'(by omega) :: l.drop (j + 2) := by rw [drop_at l j (by omega), drop_at l (j + 1) (by omega)]
    have hn : lst l (j + 2) = l[j + 1]'(by omega) + 2 := by
      unfold lst
      rw [if_neg (by omega), show j + 2 - 1 = j + 1 from by omega, getD_at l (j + 1) (by omega)]
    have ih' := ih (j + 2) (by omega)
    rw [hn] at ih'
    have hg : Good (lst l j) (l.drop j) = (decide (lst l j ≤ l[j]'(by omega)) && decide (l[j]'(by omega) ≤ l[j + 1]'(by omega)) && decide (l[j + 1]'(by omega) ≤ 1114111) && Good (l[j + 1]'(by omega) + 2) (l.drop (j + 2))) := by
      rw [hd, Good]
    rw [hg]
    by_cases h1 : l[j]'(by omega) > l[j + 1]'(by omega)
    · refine Ev.step (f := fun _ => some false) (fun k => ?_) ?_
      · simp only [spec_GoodSet.l0]
        rw [e1, if_pos (by omega), if_pos (by omega), if_pos (by omega), if_pos (by omega), rd_at l j (by omega), rd_at l (j + 1) (by omega), if_pos h1]
      · rw [show decide (l[j]'(by omega) ≤ l[j + 1]'(by omega)) = false from decide_eq_false (by omega)]
        simpa using Ev.now false
    · rw [show decide (l[j]'(by omega) ≤ l[j + 1]'(by omega)) = true from decide_eq_true (by omega), show decide (l[j + 1]'(by omega) ≤ 1114111) = true from decide_eq_true (by omega)]
      by_cases h0 : j = 0
      · subst h0
        rw [show decide (lst l 0 ≤ l[0]'(by omega)) = true from decide_eq_true (by unfold lst; simp; omega)]
        refine Ev.step (f := fun k => spec_GoodSet.l0 k l ((0 + 2 : Nat) : Int)) (fun k => ?_) (by simpa using ih')
        simp only [spec_GoodSet.l0]
        rw [e1, if_pos (by omega), if_pos (by omega), if_pos (by omega), if_pos (by omega), rd_at l 0 (by omega), rd_at l (0 + 1) (by omega), if_neg h1, if_neg (by omega), e2]
      · have e3 : wrap64 ((j : Int) - 1) = ((j - 1 : Nat) : Int) := by rw [wr _ (by omega) (by omega)]; omega
        have hp : 0 ≤ l[j - 1]'(by omega) ∧ l[j - 1]'(by omega) ≤ 1114111 := hr _ (List.getElem_mem _)
        have hs : lst l j = l[j - 1]'(by omega) + 2 := by unfold lst; rw [if_neg h0, getD_at l (j - 1) (by omega)]
        rw [hs]
        by_cases h2 : l[j]'(by omega) < l[j - 1]'(by omega) + 2
        · refine Ev.step (f := fun _ => some false) (fun k => ?_) ?_
          · simp only [spec_GoodSet.l0]
            rw [e1, if_pos (by omega), if_pos (by omega), if_pos (by omega), if_pos (by omega), rd_at l j (by omega), rd_at l (j + 1) (by omega), if_neg h1, if_pos (by omega), e3, if_pos (by omega), if_pos (by omega), rd_at l (j - 1) (by omega), wr (l[j - 1]'(by omega) + 2) (by omega) (by omega), if_pos h2]
          · rw [show decide (l[j - 1]'(by omega) + 2 ≤ l[j]'(by omega)) = false from decide_eq_false (by omega)]
            simpa using Ev.now false
        · refine Ev.step (f := fun k => spec_GoodSet.l0 k l ((j + 2 : Nat) : Int)) (fun k => ?_) ?_
          · simp only [spec_GoodSet.l0]
            rw [e1, if_pos (by omega), if_pos (by omega), if_pos (by omega), if_pos (by omega), rd_at l j (by omega), rd_at l (j + 1) (by omega), if_neg h1, if_pos (by omega), e3, if_pos (by omega), if_pos (by omega), rd_at l (j - 1) (by omega), wr (l[j - 1]'(by omega) + 2) (by omega) (by omega), if_neg h2, e2]
          · rw [show decide (l[j - 1]'(by omega) + 2 ≤ l[j]'(by omega)) = true from decide_eq_true (by omega)]
            simpa using ih'

theorem goodS_bad (l : List Int) (h : ¬ (l.length % 2 = 0 ∧ l.length ≤ 24 ∧ l.all (inB 0 1114111) = true)) : GoodS l = false := by
  cases hg : GoodS l with
  | false => rfl
  | true =>
    unfold GoodS at hg
    rw [Bool.and_eq_true, decide_eq_true_eq] at hg
    refine absurd ⟨good_even l 0 hg.1, hg.2, ?_⟩ h
    rw [List.all_eq_true]
    intro x hx
    exact (inB_iff _ _ _).2 (good_all l 0 (by omega) hg.1 x hx)

theorem specSet_ev (l : List Int) (hl : l.length ≤ 17592186044416) : Ev (fun k => spec_GoodSet.f k l) (GoodS l) := by
  have jt : Ev (fun k => spec_GoodSet.j0 k l true) false := Ev.step (f := fun _ => some false) (fun k => by simp [spec_GoodSet.j0]) (Ev.now _)
  unfold spec_GoodSet.f
  by_cases h1 : l.length % 2 = 1
  · rw [goodS_bad l (by omega)]
    exact Ev.congr (fun k => by rw [if_pos (by omega)]) jt
  · by_cases h2 : l.length ≤ 24
    · refine Ev.congr (f := fun k => (spec_l1All.f k l 0 1114111).bind fun t => spec_GoodSet.j0 k l (!t)) (fun k => by rw [if_neg (by omega), if_neg (by omega)]) ?_
      refine Ev.bind (l1All_ev l hl 0 1114111) ?_
      cases ha : l.all (inB 0 1114111) with
      | false =>
        rw [goodS_bad l (by rw [ha]; simp)]
        exact jt
      | true =>
        refine Ev.step (f := fun k => spec_GoodSet.l0 k l ((0 : Nat) : Int)) (fun k => by simp [spec_GoodSet.j0]) ?_
        have := specSet_l l hl (fun x hx => (inB_iff _ _ _).1 (List.all_eq_true.1 ha x hx)) (l.length / 2) 0 (by omega)
        have e : GoodS l = Good (lst l 0) (l.drop 0) := by unfold GoodS lst; simp [h2]
        rw [e]
        exact this
    · rw [goodS_bad l (by omega)]
      exact Ev.congr (fun k => by rw [if_neg (by omega), if_pos (by omega)]) jt

/-- As the program asks it: number by number. -/
def GA : Bool → Int → List Int → Bool
  | _, _, [] => true
  | p, least, n :: r => inB least 1114111 n && GA (!p) (if p = true then n else n + 2) r

theorem ga_good (l : List Int) : ∀ a, l.length % 2 = 0 → GA true a l = Good a l := by
  match l with
  | [] => intro a _; rfl
  | [_] => intro a h; simp at h
  | x :: y :: r =>
    intro a h
    have ih := ga_good r (y + 2) (by simp only [List.length_cons] at h; omega)
    simp only [GA, Good, Bool.not_true, if_true, Bool.not_false, Bool.false_eq_true, if_false, ih]
    rw [Bool.eq_iff_iff]
    simp only [Bool.and_eq_true, inB_iff, decide_eq_true_eq]
    refine ⟨fun ⟨⟨h1, h2⟩, h3, h4⟩ => ⟨⟨⟨h1, h3.1⟩, h3.2⟩, h4⟩, fun ⟨⟨⟨h1, h2⟩, h3⟩, h4⟩ => ⟨⟨h1, by omega⟩, ⟨h2, h3⟩, h4⟩⟩
termination_by l.length

def lsi (l : List Int) (j : Nat) : Int := if j = 0 then 0 else if j % 2 = 0 then l.getD (j - 1) 0 + 2 else l.getD (j - 1) 0

theorem implSet_l (l : List Int) (hl : l.length ≤ 17592186044416) : ∀ (d j : Nat), j + d = l.length → (j ≠ 0 → l.getD (j - 1) 0 ≤ 1114111) → (j ≠ 0 → 0 ≤ l.getD (j - 1) 0) →
    Ev (fun k => impl_GoodSet.l0 k l l (l.length : Int) (j : Int)) (GA (j % 2 == 0) (lsi l j) (l.drop j) && decide (l.length % 2 = 0 ∧ l.length ≤ 24)) := by
  intro d
  induction d with
  | zero =>
    intro j hj _ _
    refine Ev.step (f := fun _ => some (GA (j % 2 == 0) (lsi l j) (l.drop j) && decide (l.length % 2 = 0 ∧ l.length ≤ 24))) (fun k => ?_) (Ev.now _)
    simp only [impl_GoodSet.l0]
    rw [if_neg (by omega), List.drop_of_length_le (by omega)]
    simp only [GA, Bool.true_and]
    by_cases h : l.length % 2 = 0
    · rw [if_pos (by omega)]
      simp [h]
      omega
    · rw [if_neg (by omega)]
      simp [h]
  | succ d ih =>
    intro j hj hp0 hp1
    have e1 : wrap64 ((j : Int) + 1) = ((j + 1 : Nat) : Int) := by rw [wr _ (by omega) (by omega)]; omega
    rw [drop_at l j (by omega), GA]
    have fin : ∀ (g : Nat → Option Bool), (∀ k, g (k + 1) = (impl_inRange.f (l[j]'(by omega)) (lsi l j) 1114111).bind fun t => if t = true then impl_GoodSet.l0 k l l (l.length : Int) (wrap64 ((j : Int) + 1)) else some false) →
        Ev g ((inB (lsi l j) 1114111 (l[j]'(by omega)) && GA (!(j % 2 == 0)) (if (j % 2 == 0) = true then l[j]'(by omega) else l[j]'(by omega) + 2) (l.drop (j + 1))) && decide (l.length % 2 = 0 ∧ l.length ≤ 24)) := by
      intro g hg
      cases hi : inB (lsi l j) 1114111 (l[j]'(by omega)) with
      | false =>
        refine Ev.step (f := fun _ => some false) (fun k => ?_) (by simpa using Ev.now false)
        rw [hg, in_i, hi]
        simp
      | true =>
        have hb := (inB_iff _ _ _).1 hi
        have h0 : 0 ≤ lsi l j := by
          unfold lsi
          by_cases z : j = 0
          · rw [if_pos z]; omega
          · have := hp1 z
            rw [if_neg z]
            by_cases z2 : j % 2 = 0
            · rw [if_pos z2]; omega
            · rw [if_neg z2]; omega
        refine Ev.step (f := fun k => impl_GoodSet.l0 k l l (l.length : Int) ((j + 1 : Nat) : Int)) (fun k => ?_) ?_
        · rw [hg, in_i, hi, e1]
          simp
        · have hq : l.getD (j + 1 - 1) 0 = l[j]'(by omega) := by rw [show j + 1 - 1 = j from by omega, getD_at l j (by omega)]
          have := ih (j + 1) (by omega) (fun _ => by rw [hq]; omega) (fun _ => by rw [hq]; omega)
          have es : lsi l (j + 1) = if (j % 2 == 0) = true then l[j]'(by omega) else l[j]'(by omega) + 2 := by
            unfold lsi
            rw [if_neg (by omega), hq]
            by_cases z : j % 2 = 0
            · rw [if_neg (by omega), if_pos (by simpa using z)]
            · rw [if_pos (by omega), if_neg (by simpa using z)]
          have ep : ((j + 1) % 2 == 0) = !(j % 2 == 0) := by
            by_cases z : j % 2 = 0
            · have : ¬ (j + 1) % 2 = 0 := by omega
              simp [z, this]
            · have : (j + 1) % 2 = 0 := by omega
              simp [z, this]
          rw [es, ep] at this
          rw [Bool.true_and]
          exact this
    by_cases z : j = 0
    · subst z
      refine Ev.step (f := fun k => impl_GoodSet.j1 k l ((0 : Nat) : Int) (l[0]'(by omega)) 0 l (l.length : Int) ((0 : Nat) : Int) false) (fun k => ?_) (fin _ fun k => ?_)
      · simp only [impl_GoodSet.l0]
        rw [if_pos (by omega), if_pos (by omega), if_pos (by omega), if_neg (by omega), rd_at l 0 (by omega)]
      · simp only [impl_GoodSet.j1]
        rw [if_neg (by simp), if_neg (by omega)]
        rfl
    · have e3 : wrap64 ((j : Int) - 1) = ((j - 1 : Nat) : Int) := by rw [wr _ (by omega) (by omega)]; omega
      have q0 := hp0 z
      have q1 := hp1 z
      have et : ((Int.tmod (j : Int) 2) == 0) = (j % 2 == 0) := by
        rw [show (2 : Int) = ((2 : Nat) : Int) from rfl, ← Int.ofNat_tmod, Bool.eq_iff_iff]
        simp only [beq_iff_eq]
        omega
      refine Ev.step (f := fun k => impl_GoodSet.j1 k l (j : Int) (l[j]'(by omega)) 0 l (l.length : Int) (j : Int) (j % 2 == 0)) (fun k => ?_) (fin _ fun k => ?_)
      · simp only [impl_GoodSet.l0]
        rw [if_pos (by omega), if_pos (by omega), if_pos (by omega), if_pos (by omega), rd_at l j (by omega), et]
      · simp only [impl_GoodSet.j1]
        by_cases z2 : j % 2 = 0
        · rw [if_pos (by simpa using z2), e3, if_pos (by omega), if_pos (by omega), rd_nat, wr (l.getD (j - 1) 0 + 2) (by omega) (by omega)]
          unfold lsi
          rw [if_neg z, if_pos z2]
        · rw [if_neg (by simpa using z2), if_pos (by omega), e3, if_pos (by omega), if_pos (by omega), rd_nat]
          unfold lsi
          rw [if_neg z, if_neg z2]

theorem implSet_ev (l : List Int) (hl : l.length ≤ 17592186044416) : Ev (fun k => impl_GoodSet.f k l) (GoodS l) := by
  have h := implSet_l l hl l.length 0 (by omega) (fun h => absurd rfl h) (fun h => absurd rfl h)
  have e : GoodS l = (GA (0 % 2 == 0) (lsi l 0) (l.drop 0) && decide (l.length % 2 = 0 ∧ l.length ≤ 24)) := by
    by_cases hev : l.length % 2 = 0
    · show (Good 0 l && decide (l.length ≤ 24)) = (GA true 0 l && _)
      rw [ga_good l 0 hev]
      simp [hev]
    · rw [goodS_bad l (by omega)]
      simp [hev]
  rw [e]
  exact Ev.congr (fun k => by unfold impl_GoodSet.f; rfl) h

theorem goodS_facts (l : List Int) (h : GoodS l = true) : l.length ≤ 24 ∧ l.length % 2 = 0 ∧ ∀ x ∈ l, 0 ≤ x ∧ x ≤ 1114111 := by
  unfold GoodS at h
  rw [Bool.and_eq_true, decide_eq_true_eq] at h
  exact ⟨h.2, good_even l 0 h.1, good_all l 0 (by omega) h.1⟩

theorem rdS_L (l : List S48) (j : Nat) (h : j < l.length) : rd_T48 l (j : Int) = l[j] := by unfold rd_T48; simp [List.getD_eq_getElem?_getD, h]
theorem rdS_I (l : List S49) (j : Nat) (h : j < l.length) : rd_T49 l (j : Int) = l[j] := by unfold rd_T49; simp [List.getD_eq_getElem?_getD, h]
def toI (x : S48) : S49 := ⟨x.f0, x.f1⟩
/-- A pattern within bounds. -/
def SmallRe (l : List S48) : Prop := l.length ≤ 1048576 ∧ ∀ x ∈ l, x.f1.length ≤ 1048576
theorem szIntS_v (l : List Int) (b : Int) (h0 : 0 ≤ b) (h1 : b ≤ 1048576) (hl : l.length ≤ 9223372036854775807) : laws_szIntS.f l b = some (if b - (l.length : Int) < 0 then -1 else b - (l.length : Int)) := by
  unfold laws_szIntS.f
  rw [wr _ (by omega) (by omega)]
  split <;> rfl
theorem szRe_v (op : Int) (l : List Int) (b : Int) (h0 : 0 ≤ b) (h1 : b ≤ 1048576) (hl : l.length ≤ 9223372036854775807) : laws_szRe.f op l b = some (if b - (l.length : Int) < 0 then -1 else b - (l.length : Int)) := by
  unfold laws_szRe.f
  rw [szIntS_v l b h0 h1 hl, Option.bind_some]
  by_cases c : b - (l.length : Int) < 0
  · rw [if_pos c, if_pos (by omega)]
  · rw [if_neg c, if_neg c]
def szNodes : Int → List S48 → Int
  | b, [] => b
  | b, x :: t => if b - (x.f1.length : Int) < 0 then -1 else szNodes (b - (x.f1.length : Int)) t
theorem szNodes_ok (l : List S48) : ∀ b, 0 ≤ b → szNodes b l ≤ b ∧ (szNodes b l < 0 ∨ (∀ x ∈ l, (x.f1.length : Int) ≤ b)) := by
  induction l with
  | nil => intro b _; exact ⟨Int.le_refl _, Or.inr (fun r h => by cases h)⟩
  | cons x t ih =>
    intro b hb
    rw [szNodes]
    by_cases c : b - (x.f1.length : Int) < 0
    · rw [if_pos c]; exact ⟨by omega, Or.inl (by omega)⟩
    · rw [if_neg c]
      obtain ⟨h1, h2⟩ := ih (b - (x.f1.length : Int)) (by omega)
      refine ⟨by omega, h2.imp id fun h r hr => ?_⟩
      rcases List.mem_cons.1 hr with rfl | hr
      · omega
      · have := h r hr; omega
theorem szReS_l (l : List S48) (hl : l.length ≤ 1048576) (hr : ∀ x ∈ l, x.f1.length ≤ 9223372036854775807) : ∀ (d j : Nat) (b : Int), j + d = l.length → 0 ≤ b → b ≤ 1048576 → Ev (fun k => laws_szReS.l0 k l b (j : Int)) (szNodes b (l.drop j)) := by
  intro d
  induction d with
  | zero =>
    intro j b hj h0 h1
    refine Ev.step (f := fun _ => some b) (fun k => ?_) (by rw [List.drop_of_length_le (by omega)]; exact Ev.now _)
    simp only [laws_szReS.l0]
    rw [if_neg (by omega)]
  | succ d ih =>
    intro j b hj h0 h1
    have hj' : j < l.length := by omega
    rw [List.drop_eq_getElem_cons hj', szNodes]
    refine Ev.step (f := fun k => (laws_szRe.f (l[j]'hj').f0 (l[j]'hj').f1 b).bind fun t => if t < 0 then some (-1) else laws_szReS.l0 k l t ((j + 1 : Nat) : Int)) (fun k => ?_) ?_
    · simp only [laws_szReS.l0]
      rw [if_pos (by omega), if_pos (by omega), rdS_L l j hj', wr ((j : Int) + 1) (by omega) (by omega)]
      rfl
    · rw [szRe_v _ _ _ h0 h1 (hr _ (List.getElem_mem hj'))]
      refine Ev.bind (Ev.now _) ?_
      by_cases c : b - ((l[j]'hj').f1.length : Int) < 0
      · rw [if_pos c, if_pos c]
        exact Ev.congr (fun k => by rw [if_pos (by omega)]) (Ev.now _)
      · rw [if_neg c, if_neg c]
        exact Ev.congr (fun k => by rw [if_neg c]) (ih (j + 1) _ (by omega) (by omega) (by omega))
theorem szReS_ev (l : List S48) (hl : l.length ≤ 9223372036854775807) (hr : ∀ x ∈ l, x.f1.length ≤ 9223372036854775807) : ∃ v, Ev (fun k => laws_szReS.f k l 1048576) v ∧ (v < 0 ∨ SmallRe l) := by
  unfold laws_szReS.f
  rw [wr (1048576 - (l.length : Int)) (by omega) (by omega)]
  by_cases c : 1048576 - (l.length : Int) < 0
  · exact ⟨-1, Ev.congr (fun k => by rw [if_pos c]) (Ev.now _), Or.inl (by omega)⟩
  · obtain ⟨g1, g2⟩ := szNodes_ok l (1048576 - (l.length : Int)) (by omega)
    exact ⟨szNodes (1048576 - (l.length : Int)) l, Ev.congr (fun k => by rw [if_neg c]; rfl) (szReS_l l (by omega) hr l.length 0 _ (by omega) (by omega) (by omega)), g2.imp id fun h => ⟨by omega, fun r hr => by have := h r hr; omega⟩⟩

theorem toReS_l (l : List S48) (h : SmallRe l) : ∀ (d j : Nat) (o : List S49), j + d = l.length → o.length = l.length → (∀ i (hi : i < l.length), i < j → o[i]? = some (toI l[i])) → Ev (fun k => laws_toReS.l0 k l o (j : Int)) (l.map toI) := by
  obtain ⟨h1, h2⟩ := h
  intro d
  induction d with
  | zero =>
    intro j o hj ho he
    refine Ev.step (f := fun _ => some (l.map toI)) (fun k => ?_) (Ev.now _)
    simp only [laws_toReS.l0]
    rw [if_neg (by omega)]
    congr 1
    refine List.ext_getElem (by rw [List.length_map]; omega) fun i g1 g2 => ?_
    rw [List.length_map] at g2
    have := he i g2 (by omega)
    rw [List.getElem?_eq_getElem g1] at this
    rw [Option.some.inj this, List.getElem_map]
  | succ d ih =>
    intro j o hj ho he
    have hj' : j < l.length := by omega
    have e1 : wrap64 ((j : Int) + 1) = ((j + 1 : Nat) : Int) := by rw [wr _ (by omega) (by omega)]; omega
    have tr : Ev (fun k => laws_toRe.f k (l[j]'hj').f0 (l[j]'hj').f1) ((l[j]'hj').f0, (l[j]'hj').f1) := by
      unfold laws_toRe.f
      exact Ev.bind (toIntS_ev _ (by have := h2 _ (List.getElem_mem hj'); omega)) (Ev.now _)
    refine Ev.step (f := fun k => (laws_toRe.f k (l[j]'hj').f0 (l[j]'hj').f1).bind fun t => laws_toReS.l0 k l (o.set j ⟨t.1, t.2⟩) ((j + 1 : Nat) : Int)) (fun k => ?_) (Ev.bind tr (ih (j + 1) (o.set j (toI (l[j]'hj'))) (by omega) (by rw [List.length_set]; exact ho) fun i hi hlt => ?_))
    · simp only [laws_toReS.l0]
      rw [if_pos (by omega), if_pos (by omega), rdS_L l j hj', e1]
      congr 1
      funext t
      rw [if_pos (by omega)]
      simp
    · by_cases e : i = j
      · subst e
        rw [List.getElem?_set_self (by omega)]
      · rw [List.getElem?_set_ne (fun h => e h.symm)]
        exact he i hi (by omega)
theorem toReS_ev (l : List S48) (h : SmallRe l) : Ev (fun k => laws_toReS.f k l) (l.map toI) := by
  have h1 := h.1
  refine Ev.congr (f := fun k => laws_toReS.l0 k l (List.replicate l.length z49) ((0 : Nat) : Int)) (fun k => ?_) (toReS_l l h l.length 0 _ (by omega) (by simp) (fun i hi h => absurd h (by omega)))
  unfold laws_toReS.f
  rw [if_pos (by omega), if_pos (by omega)]
  simp
theorem eqReS_l (l : List S49) (h1 : l.length ≤ 1048576) (h2 : ∀ x ∈ l, x.f1.length ≤ 1048576) : ∀ (d j : Nat), j + d = l.length → Ev (fun k => laws_eqReS.l0 k l l (j : Int)) true := by
  intro d
  induction d with
  | zero =>
    intro j hj
    refine Ev.step (f := fun _ => some true) (fun k => ?_) (Ev.now _)
    simp only [laws_eqReS.l0]
    rw [if_neg (by omega)]
  | succ d ih =>
    intro j hj
    have hj' : j < l.length := by omega
    have er : Ev (fun k => laws_eqRe.f k (l[j]'hj').f0 (l[j]'hj').f1 (l[j]'hj').f0 (l[j]'hj').f1) true := by
      unfold laws_eqRe.f
      refine Ev.congr (fun k => by rw [if_pos rfl]) (Ev.bind (eqIntS_ev (l[j]'hj').f1 (l[j]'hj').f1 (by have := h2 _ (List.getElem_mem hj'); omega)) ?_)
      exact Ev.congr (fun k => by rw [if_pos (by simp)]) (Ev.now _)
    refine Ev.step (f := fun k => (laws_eqRe.f k (l[j]'hj').f0 (l[j]'hj').f1 (l[j]'hj').f0 (l[j]'hj').f1).bind fun t => if t = true then laws_eqReS.l0 k l l ((j + 1 : Nat) : Int) else some false) (fun k => ?_) (Ev.bind er (Ev.congr (fun k => by rw [if_pos rfl]) (ih (j + 1) (by omega))))
    simp only [laws_eqReS.l0]
    rw [if_pos (by omega), if_pos (by omega), if_pos (by omega), rdS_I l j hj', wr ((j : Int) + 1) (by omega) (by omega)]
    rfl
theorem eqReS_ev (l : List S49) (h1 : l.length ≤ 1048576) (h2 : ∀ x ∈ l, x.f1.length ≤ 1048576) : Ev (fun k => laws_eqReS.f k l l) true :=
  Ev.congr (fun k => by unfold laws_eqReS.f; rw [if_pos rfl]; rfl) (eqReS_l l h1 h2 l.length 0 (by omega))
theorem small_map (l : List S48) (h : SmallRe l) : (l.map toI).length ≤ 1048576 ∧ ∀ x ∈ l.map toI, x.f1.length ≤ 1048576 := by
  refine ⟨by rw [List.length_map]; exact h.1, fun x hx => ?_⟩
  obtain ⟨y, hy, rfl⟩ := List.mem_map.1 hx
  exact h.2 y hy
/-- How many parts an op has. -/
def arV (a : Int) : Int := if a = 1 then 0 else if a = 2 then 0 else if a = 6 then 1 else if a = 7 then 1 else if a = 3 then 2 else if a = 4 then 2 else if a = 5 then 2 else -1
theorem arV_cases (a : Int) : arV a = 0 ∨ arV a = 1 ∨ arV a = 2 ∨ arV a = -1 := by
  unfold arV
  repeat' split
  all_goals simp
theorem specAr_ev (a : Int) : Ev (fun k => spec_l5Arity.f k a) (arV a) := by
  have j0t : Ev (fun k => spec_l5Arity.j0 k a true) 0 := Ev.step (f := fun _ => some 0) (fun k => by simp [spec_l5Arity.j0]) (Ev.now _)
  have j1t : Ev (fun k => spec_l5Arity.j1 k a true) 1 := Ev.step (f := fun _ => some 1) (fun k => by simp [spec_l5Arity.j1]) (Ev.now _)
  unfold spec_l5Arity.f arV
  by_cases h1 : a = 1
  · rw [if_pos h1]; exact Ev.congr (fun k => by rw [if_pos h1, show (a == 1) = true from by simpa using h1]) j0t
  rw [if_neg h1]
  by_cases h2 : a = 2
  · rw [if_pos h2]; exact Ev.congr (fun k => by rw [if_neg h1, show (a == 2) = true from by simpa using h2]) j0t
  rw [if_neg h2]
  refine Ev.congr (f := fun k => spec_l5Arity.j0 k a false) (fun k => by rw [if_neg h1, show (a == 2) = false from by simpa using h2]) ?_
  by_cases h6 : a = 6
  · rw [if_pos h6]
    exact Ev.step (fun k => by simp only [spec_l5Arity.j0]; rw [if_neg (by simp), if_pos h6, show (a == 6) = true from by simpa using h6]) j1t
  rw [if_neg h6]
  by_cases h7 : a = 7
  · rw [if_pos h7]
    exact Ev.step (fun k => by simp only [spec_l5Arity.j0]; rw [if_neg (by simp), if_neg h6, show (a == 7) = true from by simpa using h7]) j1t
  rw [if_neg h7]
  refine Ev.step (f := fun k => spec_l5Arity.j1 k a false) (fun k => by simp only [spec_l5Arity.j0]; rw [if_neg (by simp), if_neg h6, show (a == 7) = false from by simpa using h7]) ?_
  refine Ev.step (f := fun _ => some (if a = 3 then 2 else if a = 4 then 2 else if a = 5 then 2 else -1)) (fun k => ?_) (Ev.now _)
  simp only [spec_l5Arity.j1]
  rw [if_neg (by simp)]
  split
  · rfl
  · split
    · rfl
    · split <;> rfl
theorem implAr_ev (a : Int) : Ev (fun k => impl_partsOf.f k a) (arV a) := by
  have j0t : Ev (fun k => impl_partsOf.j0 k a true) 0 := Ev.step (f := fun _ => some 0) (fun k => by simp [impl_partsOf.j0]) (Ev.now _)
  have j1t : Ev (fun k => impl_partsOf.j1 k a true) 1 := Ev.step (f := fun _ => some 1) (fun k => by simp [impl_partsOf.j1]) (Ev.now _)
  unfold impl_partsOf.f arV
  by_cases h1 : a = 1
  · rw [if_pos h1]; exact Ev.congr (fun k => by rw [if_pos h1, show (a == 1) = true from by simpa using h1]) j0t
  rw [if_neg h1]
  by_cases h2 : a = 2
  · rw [if_pos h2]; exact Ev.congr (fun k => by rw [if_neg h1, show (a == 2) = true from by simpa using h2]) j0t
  rw [if_neg h2]
  refine Ev.congr (f := fun k => impl_partsOf.j0 k a false) (fun k => by rw [if_neg h1, show (a == 2) = false from by simpa using h2]) ?_
  by_cases h6 : a = 6
  · rw [if_pos h6]
    exact Ev.step (fun k => by simp only [impl_partsOf.j0]; rw [if_neg (by simp), if_pos h6, show (a == 6) = true from by simpa using h6]) j1t
  rw [if_neg h6]
  by_cases h7 : a = 7
  · rw [if_pos h7]
    exact Ev.step (fun k => by simp only [impl_partsOf.j0]; rw [if_neg (by simp), if_neg h6, show (a == 7) = true from by simpa using h7]) j1t
  rw [if_neg h7]
  refine Ev.step (f := fun k => impl_partsOf.j1 k a false) (fun k => by simp only [impl_partsOf.j0]; rw [if_neg (by simp), if_neg h6, show (a == 7) = false from by simpa using h7]) ?_
  refine Ev.step (f := fun _ => some (if a = 3 then 2 else if a = 4 then 2 else if a = 5 then 2 else -1)) (fun k => ?_) (Ev.now _)
  simp only [impl_partsOf.j1]
  rw [if_neg (by simp)]
  split
  · rfl
  · split
    · rfl
    · split <;> rfl

/-- A node's set is as it must be. -/
def setOk (x : S49) : Bool := GoodS x.f1 && (x.f1.all isR && (decide (x.f0 = 2) || decide (x.f1.length = 0)))
/-- The nodes stand as they must. -/
def stackV : Int → List S49 → Bool
  | c, [] => c == 1
  | c, x :: r => decide (0 ≤ arV x.f0) && (decide (arV x.f0 ≤ c) && stackV (c + 1 - arV x.f0) r)
def GoodRV (l : List S49) : Bool := decide (l.length ≤ 40) && (l.all setOk && stackV 0 l)

theorem node_ev (x : S49) (hl : x.f1.length ≤ 1048576) : Ev (fun k => spec_l5Node.f k x.f0 x.f1) (decide (0 ≤ arV x.f0) && setOk x) := by
  have q : ∀ g : Nat → Option Bool, (∀ k, g k = (spec_GoodSet.f k x.f1).bind fun t146 => if t146 = true then (spec_l1AllRunes.f k x.f1).bind fun t147 => some t147 else some false) → Ev g (GoodS x.f1 && x.f1.all isR) := by
    intro g hg
    refine Ev.congr hg (Ev.bind (specSet_ev x.f1 (by omega)) ?_)
    cases hs : GoodS x.f1 with
    | false => exact Ev.congr (fun k => by rw [if_neg (by simp)]) (by simpa using Ev.now false)
    | true =>
      have h24 := (goodS_facts x.f1 hs).1
      refine Ev.congr (fun k => by rw [if_pos rfl]) (Ev.bind (specAllRunes_ev x.f1 (by omega)) ?_)
      rw [show decide (x.f1.length ≤ 1000) = true from decide_eq_true (by omega), Bool.and_true, Bool.true_and]
      exact Ev.now _
  unfold spec_l5Node.f setOk
  refine Ev.bind (specAr_ev x.f0) ?_
  by_cases h0 : arV x.f0 < 0
  · rw [show decide (0 ≤ arV x.f0) = false from decide_eq_false (by omega), Bool.false_and]
    exact Ev.congr (fun k => by rw [if_pos h0]) (Ev.now _)
  · rw [show decide (0 ≤ arV x.f0) = true from decide_eq_true (by omega), Bool.true_and]
    by_cases h2 : x.f0 = 2
    · rw [decide_eq_true h2, Bool.true_or, Bool.and_true]
      exact q _ (fun k => by rw [if_neg h0, if_pos h2])
    · rw [decide_eq_false h2, Bool.false_or]
      by_cases h3 : x.f1.length = 0
      · rw [decide_eq_true h3, Bool.and_true]
        exact q _ (fun k => by rw [if_neg h0, if_neg h2, if_neg (by omega)])
      · rw [decide_eq_false h3, Bool.and_false, Bool.and_false]
        exact Ev.congr (fun k => by rw [if_neg h0, if_neg h2, if_pos (by omega)]) (Ev.now _)
theorem specGoodRe_l (l : List S49) (hl : l.length ≤ 1000) (hr : ∀ x ∈ l, x.f1.length ≤ 1048576) : ∀ (d j : Nat) (c : Int), j + d = l.length → 0 ≤ c → c ≤ j → Ev (fun k => spec_l5Good.l0 k c l (l.length : Int) (j : Int)) ((l.drop j).all setOk && stackV c (l.drop j)) := by
  intro d
  induction d with
  | zero =>
    intro j c hj h0 h1
    refine Ev.step (f := fun _ => some (c == 1)) (fun k => ?_) (by rw [List.drop_of_length_le (by omega)]; exact Ev.now _)
    simp only [spec_l5Good.l0]
    rw [if_neg (by omega)]
  | succ d ih =>
    intro j c hj h0 h1
    have hj' : j < l.length := by omega
    have hx := hr _ (List.getElem_mem hj')
    have e1 : wrap64 ((j : Int) + 1) = ((j + 1 : Nat) : Int) := by rw [wr _ (by omega) (by omega)]; omega
    rw [List.drop_eq_getElem_cons hj', List.all_cons, stackV]
    refine Ev.step (fun k => by simp only [spec_l5Good.l0]; rw [if_pos (by omega), if_pos (by omega), if_pos (by omega), rdS_I l j hj', e1]) ?_
    refine Ev.bind (node_ev (l[j]'hj') hx) ?_
    have hc := arV_cases (l[j]'hj').f0
    by_cases ha : 0 ≤ arV (l[j]'hj').f0
    · rw [decide_eq_true ha, Bool.true_and, Bool.true_and]
      cases setOk (l[j]'hj') with
      | false => exact Ev.congr (fun k => by rw [if_neg (by simp)]) (by simpa using Ev.now false)
      | true =>
        refine Ev.congr (fun k => by rw [if_pos rfl]) (Ev.bind (specAr_ev (l[j]'hj').f0) ?_)
        rw [Bool.true_and]
        by_cases hp : c < arV (l[j]'hj').f0
        · rw [show decide (arV (l[j]'hj').f0 ≤ c) = false from decide_eq_false (by omega), Bool.false_and, Bool.and_false]
          exact Ev.congr (fun k => by rw [if_pos hp]) (Ev.now _)
        · rw [show decide (arV (l[j]'hj').f0 ≤ c) = true from decide_eq_true (by omega), Bool.true_and]
          refine Ev.congr (fun k => by rw [if_neg hp]) (Ev.bind (specAr_ev (l[j]'hj').f0) ?_)
          have e2 : wrap64 (c + wrap64 (1 - arV (l[j]'hj').f0)) = c + 1 - arV (l[j]'hj').f0 := by rw [wr (1 - arV (l[j]'hj').f0) (by omega) (by omega), wr _ (by omega) (by omega)]; omega
          rw [e2]
          exact ih (j + 1) (c + 1 - arV (l[j]'hj').f0) (by omega) (by omega) (by omega)
    · rw [decide_eq_false ha, Bool.false_and, Bool.false_and, Bool.and_false]
      exact Ev.congr (fun k => by rw [if_neg (by simp)]) (Ev.now _)
theorem specGoodRe_ev (l : List S49) (hl : l.length ≤ 1048576) (hr : ∀ x ∈ l, x.f1.length ≤ 1048576) : Ev (fun k => spec_GoodRe.f k l) (GoodRV l) := by
  unfold spec_GoodRe.f GoodRV
  by_cases h : l.length ≤ 40
  · rw [decide_eq_true h, Bool.true_and]
    refine Ev.congr (fun k => by rw [if_pos (by omega)]) (Ev.bind (a := l.all setOk && stackV 0 l) ?_ (Ev.now _))
    unfold spec_l5Good.f
    simpa using specGoodRe_l l (by omega) hr l.length 0 0 (by omega) (by omega) (by omega)
  · rw [decide_eq_false h, Bool.false_and]
    exact Ev.congr (fun k => by rw [if_neg (by omega)]) (Ev.now _)

theorem clone_v (l : List Int) (h : l.length ≤ 1099511627776) : slices_Clone_int_int.f l = some l := by
  unfold slices_Clone_int_int.f
  rw [if_pos (by omega)]
theorem parts_l (l : List S49) (hl : l.length ≤ 1000) : ∀ (d j : Nat) (acc : List (List Int)) (pile : List Int), j + d = l.length → acc.length ≤ j → pile.length ≤ j → ∃ L, Ev (fun k => impl_parts.l0 k acc pile l (l.length : Int) (j : Int)) (L, stackV (pile.length : Int) (l.drop j)) := by
  intro d
  induction d with
  | zero =>
    intro j acc pile hj ha hp
    refine ⟨acc, Ev.step (f := fun _ => some (acc, (pile.length : Int) == 1)) (fun k => ?_) (by rw [List.drop_of_length_le (by omega)]; exact Ev.now _)⟩
    simp only [impl_parts.l0]
    rw [if_neg (by omega)]
  | succ d ih =>
    intro j acc pile hj hacc hp
    have hj' : j < l.length := by omega
    have e1 : wrap64 ((j : Int) + 1) = ((j + 1 : Nat) : Int) := by rw [wr _ (by omega) (by omega)]; omega
    rw [List.drop_eq_getElem_cons hj', stackV]
    have hc := arV_cases (l[j]'hj').f0
    have st : ∀ (g : Nat → Option (List (List Int) × Bool)) r, Ev g r → (∀ k, (if arV (l[j]'hj').f0 < 0 then some (([] : List (List Int)), false) else (if arV (l[j]'hj').f0 > (pile.length : Int) then some (([] : List (List Int)), false) else (if 0 ≤ (wrap64 ((pile.length : Int) - arV (l[j]'hj').f0)) then (if (wrap64 ((pile.length : Int) - arV (l[j]'hj').f0)) ≤ (pile.length : Int) then ((slices_Clone_int_int.f (pile.drop ((wrap64 ((pile.length : Int) - arV (l[j]'hj').f0)) : Int).toNat)).bind fun t180 => (if acc.length < 5864062014805 then ((some (pile.take ((wrap64 ((pile.length : Int) - arV (l[j]'hj').f0)) : Int).toNat : List Int)).bind fun y186 => (if y186.length < 17592186044416 then (impl_parts.l0 k (acc ++ [t180]) (y186 ++ [(j : Int)]) l (l.length : Int) ((j + 1 : Nat) : Int)) else (none))) else (none))) else (none)) else (none)))) = g k) → Ev (fun k => impl_parts.l0 k acc pile l (l.length : Int) (j : Int)) r := by
      intro g r hg he
      refine Ev.step (fun k => by simp only [impl_parts.l0]; rw [if_pos (by omega), if_pos (by omega), if_pos (by omega), rdS_I l j hj', e1]) ?_
      exact Ev.bind (implAr_ev (l[j]'hj').f0) (Ev.congr he hg)
    by_cases ha : 0 ≤ arV (l[j]'hj').f0
    · rw [decide_eq_true ha, Bool.true_and]
      by_cases hq : arV (l[j]'hj').f0 > (pile.length : Int)
      · refine ⟨[], st (fun _ => some ([], false)) _ ?_ (fun k => by rw [if_neg (by omega), if_pos hq])⟩
        rw [show decide (arV (l[j]'hj').f0 ≤ (pile.length : Int)) = false from decide_eq_false (by omega), Bool.false_and]
        exact Ev.now _
      · rw [show decide (arV (l[j]'hj').f0 ≤ (pile.length : Int)) = true from decide_eq_true (by omega), Bool.true_and]
        obtain ⟨n, hn⟩ : ∃ n : Nat, (pile.length : Int) - arV (l[j]'hj').f0 = (n : Int) := ⟨((pile.length : Int) - arV (l[j]'hj').f0).toNat, by omega⟩
        have e2 : wrap64 ((pile.length : Int) - arV (l[j]'hj').f0) = (n : Int) := by rw [hn, wr _ (by omega) (by omega)]
        have hz : (pile.drop n).length ≤ pile.length := by rw [List.length_drop]; omega
        have ht : (pile.take n).length = n := by rw [List.length_take]; omega
        obtain ⟨L, hL⟩ := ih (j + 1) (acc ++ [pile.drop n]) (pile.take n ++ [(j : Int)]) (by omega) (by simp; omega) (by rw [List.length_append, ht]; simp; omega)
        refine ⟨L, st (fun k => impl_parts.l0 k (acc ++ [pile.drop n]) (pile.take n ++ [(j : Int)]) l (l.length : Int) ((j + 1 : Nat) : Int)) _ ?_ (fun k => ?_)⟩
        · rw [List.length_append, ht] at hL
          rw [show (pile.length : Int) + 1 - arV (l[j]'hj').f0 = ((n + [(j : Int)].length : Nat) : Int) from by simp; omega]
          exact hL
        · rw [if_neg (by omega), if_neg hq, e2, if_pos (by omega), if_pos (by omega), Int.toNat_natCast, clone_v _ (by omega), Option.bind_some, if_pos (by omega), Option.bind_some, if_pos (by omega)]
    · refine ⟨[], st (fun _ => some ([], false)) _ ?_ (fun k => by rw [if_pos (by omega)])⟩
      rw [decide_eq_false ha, Bool.false_and]
      exact Ev.now _
theorem parts_ev (l : List S49) (hl : l.length ≤ 1000) : ∃ L, Ev (fun k => impl_parts.f k l) (L, stackV 0 l) := by
  obtain ⟨L, h⟩ := parts_l l hl l.length 0 [] [] (by omega) (by simp) (by simp)
  exact ⟨L, Ev.congr (fun k => by unfold impl_parts.f; rfl) (by simpa using h)⟩

theorem anyO_ev {α : Type} (f : Nat → α → Option Bool) (p : α → Bool) (l : List α) (h : ∀ x ∈ l, Ev (fun k => f k x) (p x)) : Ev (fun k => anyO (f k) l) (l.any p) := by
  have key : ∃ K, ∀ k, K ≤ k → ∀ x ∈ l, f k x = some (p x) := by
    induction l with
    | nil => exact ⟨0, fun k _ x hx => by cases hx⟩
    | cons y t ih =>
      obtain ⟨K1, h1⟩ := ih (fun x hx => h x (by simp [hx]))
      obtain ⟨K2, h2⟩ := h y (by simp)
      refine ⟨max K1 K2, fun k hk x hx => ?_⟩
      rcases List.mem_cons.1 hx with rfl | hx
      · exact h2 k (by omega)
      · exact h1 k (by omega) x hx
  obtain ⟨K, hK⟩ := key
  refine ⟨K, fun k hk => ?_⟩
  have hf := hK k hk
  show anyO (f k) l = some (l.any p)
  unfold anyO
  rw [if_pos (List.all_eq_true.2 fun x hx => by rw [hf x hx]; rfl)]
  congr 1
  rw [Bool.eq_iff_iff, List.any_eq_true, List.any_eq_true]
  exact ⟨fun ⟨x, hx, e⟩ => ⟨x, hx, by rw [hf x hx] at e; exact e⟩, fun ⟨x, hx, e⟩ => ⟨x, hx, by rw [hf x hx]; exact e⟩⟩
theorem badRune_isR (r : Int) : badRuneV r = !isR r := by
  unfold badRuneV goodRuneV isR inB
  rfl
theorem badRe_ev (x : S49) (hl : x.f1.length ≤ 1048576) : Ev (fun k => badReO k x) (!setOk x) := by
  unfold badReO
  refine Ev.bind (implSet_ev x.f1 (by omega)) ?_
  have e : (!GoodS x.f1 || (x.f1.any badRuneV || (decide (x.f0 ≠ 2) && decide ((x.f1.length : Int) > 0)))) = !setOk x := by
    unfold setOk
    have e1 : x.f1.any badRuneV = !x.f1.all isR := by
      rw [List.not_all_eq_any_not]
      exact congrArg x.f1.any (funext badRune_isR)
    have e2 : (decide (x.f0 ≠ 2) && decide ((x.f1.length : Int) > 0)) = !(decide (x.f0 = 2) || decide (x.f1.length = 0)) := by
      rw [Bool.not_or, Bool.eq_iff_iff]
      simp only [Bool.and_eq_true, decide_eq_true_eq, Bool.not_eq_true', decide_eq_false_iff_not]
      omega
    rw [e1, e2, Bool.not_and, Bool.not_and]
  rw [e]
  exact Ev.now _
theorem implGoodRe_ev (l : List S49) (hl : l.length ≤ 1048576) (hr : ∀ x ∈ l, x.f1.length ≤ 1048576) : Ev (fun k => impl_GoodRe.f k l) (GoodRV l) := by
  unfold impl_GoodRe.f GoodRV
  rw [in_i]
  refine Ev.bind (Ev.now _) ?_
  by_cases h : 1 ≤ (l.length : Int) ∧ (l.length : Int) ≤ 40
  · rw [(inB_iff 1 40 _).2 h, decide_eq_true (show l.length ≤ 40 by omega), Bool.true_and]
    refine Ev.congr (fun k => by rw [if_pos rfl]) (Ev.bind (anyO_ev (fun k x => badReO k x) (fun x => !setOk x) l (fun x hx => badRe_ev x (hr x hx))) ?_)
    rw [← List.not_all_eq_any_not]
    cases l.all setOk with
    | false => exact Ev.congr (fun k => by rw [if_pos (by simp)]) (by simpa using Ev.now false)
    | true =>
      obtain ⟨L, hL⟩ := parts_ev l (by omega)
      refine Ev.congr (fun k => by rw [if_neg (by simp)]) (Ev.bind hL ?_)
      rw [Bool.true_and]
      exact Ev.now _
  · rw [show inB 1 40 (l.length : Int) = false from by cases e : inB 1 40 (l.length : Int) with | false => rfl | true => exact absurd ((inB_iff _ _ _).1 e) h]
    refine Ev.congr (fun k => by rw [if_neg (by simp)]) ?_
    by_cases h0 : l.length ≤ 40
    · have : l = [] := List.eq_nil_of_length_eq_zero (by omega)
      subst this
      exact Ev.now _
    · rw [decide_eq_false h0, Bool.false_and]
      exact Ev.now _
theorem goodS_nil : GoodS [] = true := by first | rfl | decide | simp [GoodS]
/-- A pattern as a tree. -/
inductive Pt where
  | l (n : S49) : Pt
  | u (n : S49) (a : Pt) : Pt
  | b (n : S49) (x y : Pt) : Pt
namespace Pt
def flat : Pt → List S49
  | l n => [n]
  | u n a => a.flat ++ [n]
  | b n x y => x.flat ++ (y.flat ++ [n])
def ok : Pt → Prop
  | l n => arV n.f0 = 0
  | u n a => arV n.f0 = 1 ∧ a.ok
  | b n x y => arV n.f0 = 2 ∧ x.ok ∧ y.ok
theorem flat_pos : ∀ t : Pt, 0 < t.flat.length
  | l _ => by simp [flat]
  | u _ _ => by simp [flat]
  | b _ _ _ => by simp [flat]; omega
/-- The root's node. -/
def root : Pt → S49
  | l n => n
  | u n _ => n
  | b n _ _ => n
theorem flat_last : ∀ t : Pt, ∃ i, t.flat = i ++ [t.root]
  | l n => ⟨[], rfl⟩
  | u n a => ⟨a.flat, rfl⟩
  | b n x y => ⟨x.flat ++ y.flat, by simp [flat, root]⟩
end Pt
def flats : List Pt → List S49
  | [] => []
  | t :: st => flats st ++ t.flat
def oks (st : List Pt) : Prop := ∀ t ∈ st, t.ok
/-- What a stack of trees becomes by nodes. -/
def build : List S49 → List Pt → Option (List Pt)
  | [], st => some st
  | n :: p, st => if arV n.f0 = 0 then build p (.l n :: st) else if arV n.f0 = 1 then (match st with | a :: st => build p (.u n a :: st) | [] => none) else if arV n.f0 = 2 then (match st with | y :: x :: st => build p (.b n x y :: st) | _ => none) else none
theorem build_flat : ∀ (t : Pt), t.ok → ∀ p st, build (t.flat ++ p) st = build p (t :: st)
  | .l n, h, p, st => by
    simp only [Pt.ok] at h
    simp only [Pt.flat, List.cons_append, List.nil_append, build]
    rw [if_pos h]
  | .u n a, h, p, st => by
    obtain ⟨h1, h2⟩ := h
    simp only [Pt.flat, List.append_assoc]
    rw [build_flat a h2]
    simp only [List.cons_append, List.nil_append, build]
    rw [if_neg (by omega), if_pos h1]
  | .b n x y, h, p, st => by
    obtain ⟨h1, h2, h3⟩ := h
    simp only [Pt.flat, List.append_assoc]
    rw [build_flat x h2, build_flat y h3]
    simp only [List.cons_append, List.nil_append, build]
    rw [if_neg (by omega), if_neg (by omega), if_pos h1]
theorem build_inv : ∀ (p : List S49) (st st' : List Pt), oks st → build p st = some st' → oks st' ∧ flats st' = flats st ++ p
  | [], st, st', hk, h => by
    simp only [build, Option.some.injEq] at h
    subst h
    exact ⟨hk, by simp⟩
  | n :: p, st, st', hk, h => by
    simp only [build] at h
    split at h
    · rename_i h0
      obtain ⟨a, b⟩ := build_inv p _ _ (fun t ht => by rcases List.mem_cons.1 ht with rfl | ht; exact h0; exact hk t ht) h
      exact ⟨a, by rw [b]; simp [flats, Pt.flat]⟩
    · split at h
      · rename_i h1
        cases st with
        | nil => cases h
        | cons a st =>
          obtain ⟨q, r⟩ := build_inv p _ _ (fun t ht => by rcases List.mem_cons.1 ht with rfl | ht; exact ⟨h1, hk a (by simp)⟩; exact hk t (by simp [ht])) h
          exact ⟨q, by rw [r]; simp [flats, Pt.flat]⟩
      · split at h
        · rename_i h2
          match st, hk, h with
          | [], _, h => cases h
          | [_], _, h => cases h
          | y :: x :: st, hk, h =>
            obtain ⟨q, r⟩ := build_inv p _ _ (fun t ht => by rcases List.mem_cons.1 ht with rfl | ht; exact ⟨h2, hk x (by simp), hk y (by simp)⟩; exact hk t (by simp [ht])) h
            exact ⟨q, by rw [r]; simp [flats, Pt.flat]⟩
        · cases h
/-- A list of nodes whose count stays right is built. -/
theorem build_stack : ∀ (p : List S49) (st : List Pt), stackV (st.length : Int) p = true → ∃ t, build p st = some [t]
  | [], st, h => by
    simp only [stackV, decide_eq_true_eq] at h
    match st, h with
    | [t], _ => exact ⟨t, rfl⟩
    | [], h => simp at h
    | _ :: _ :: st, h => simp at h; omega
  | n :: p, st, h => by
    simp only [stackV, Bool.and_eq_true, decide_eq_true_eq] at h
    obtain ⟨h0, h1, h2⟩ := h
    simp only [build]
    split
    · rename_i e
      exact build_stack p _ (by rw [e] at h2; simpa using h2)
    · split
      · rename_i e
        match st, h1, h2 with
        | [], h1, _ => simp at h1; omega
        | a :: st, _, h2 => exact build_stack p _ (by rw [e] at h2; simpa using h2)
      · split
        · rename_i e
          match st, h1, h2 with
          | [], h1, _ => simp at h1; omega
          | [_], h1, _ => simp at h1; omega
          | y :: x :: st, _, h2 => exact build_stack p _ (by rw [e] at h2; simp only [List.length_cons] at h2 ⊢; rw [show (((st.length + 1 : Nat)) : Int) = ((st.length + 1 + 1 : Nat) : Int) + 1 - 2 from by omega]; exact h2)
        · rename_i e0 e1 e2
          exfalso
          unfold arV at h0 e0 e1 e2
          repeat' split at h0
          all_goals simp_all
theorem stack_flat : ∀ (t : Pt), t.ok → ∀ (p : List S49) (c : Int), 0 ≤ c → stackV c (t.flat ++ p) = stackV (c + 1) p
  | .l n, h, p, c, hc => by
    simp only [Pt.ok] at h
    simp only [Pt.flat, List.cons_append, List.nil_append, stackV]
    rw [h, decide_eq_true (by omega), decide_eq_true (by omega), Bool.true_and, Bool.true_and, show c + 1 - 0 = c + 1 from by omega]
  | .u n a, h, p, c, hc => by
    obtain ⟨h1, h2⟩ := h
    simp only [Pt.flat, List.append_assoc]
    rw [stack_flat a h2 _ c hc]
    simp only [List.cons_append, List.nil_append, stackV]
    rw [h1, decide_eq_true (by omega), decide_eq_true (by omega), Bool.true_and, Bool.true_and, show c + 1 + 1 - 1 = c + 1 from by omega]
  | .b n x y, h, p, c, hc => by
    obtain ⟨h1, h2, h3⟩ := h
    simp only [Pt.flat, List.append_assoc]
    rw [stack_flat x h2 _ c hc, stack_flat y h3 _ _ (by omega)]
    simp only [List.cons_append, List.nil_append, stackV]
    rw [h1, decide_eq_true (by omega), decide_eq_true (by omega), Bool.true_and, Bool.true_and, show c + 1 + 1 + 1 - 2 = c + 1 from by omega]
/-- A good list is one tree's. -/
theorem tree_of (p : List S49) (h : stackV 0 p = true) : ∃ t : Pt, t.ok ∧ p = t.flat := by
  obtain ⟨t, ht⟩ := build_stack p [] h
  obtain ⟨a, b⟩ := build_inv p [] [t] (fun _ h => by cases h) ht
  exact ⟨t, a t (by simp), by simpa [flats] using b.symm⟩
theorem stack_tree (t : Pt) (h : t.ok) : stackV 0 t.flat = true := by
  have := stack_flat t h [] 0 (by omega)
  rw [List.append_nil] at this
  rw [this]; simp [stackV]
theorem flat_inj {t t' : Pt} (h : t.ok) (h' : t'.ok) (e : t.flat = t'.flat) : t = t' := by
  have a := build_flat t h [] []
  have b := build_flat t' h' [] []
  rw [e] at a
  rw [a] at b
  simpa [build] using b
/-- A node without a set. -/
def nd (op : Int) : S49 := ⟨op, []⟩
theorem nd_ok (op : Int) : setOk (nd op) = true := by simp [setOk, nd, goodS_nil]
/-- Every node's set is as it must be. -/
def Pt.sets (t : Pt) : Prop := ∀ x ∈ t.flat, setOk x = true
theorem Pt.sets_l {n : S49} : (Pt.l n).sets ↔ setOk n = true := by simp [Pt.sets, Pt.flat]
theorem Pt.sets_u {n : S49} {a : Pt} : (Pt.u n a).sets ↔ a.sets ∧ setOk n = true := by
  simp only [Pt.sets, Pt.flat, List.mem_append, List.mem_singleton]
  exact ⟨fun h => ⟨fun x hx => h x (.inl hx), h n (.inr rfl)⟩, fun h x hx => hx.elim (h.1 x) (fun e => e ▸ h.2)⟩
theorem Pt.sets_b {n : S49} {a b : Pt} : (Pt.b n a b).sets ↔ a.sets ∧ b.sets ∧ setOk n = true := by
  simp only [Pt.sets, Pt.flat, List.mem_append, List.mem_singleton]
  exact ⟨fun h => ⟨fun x hx => h x (.inl hx), fun x hx => h x (.inr (.inl hx)), h n (.inr (.inr rfl))⟩, fun h x hx => hx.elim (h.1 x) (fun e => e.elim (h.2.1 x) (fun e => e ▸ h.2.2))⟩
/-- Good lists are the good trees'. -/
theorem good_tree {p : List S49} (h : GoodRV p = true) : ∃ t : Pt, t.ok ∧ t.sets ∧ p = t.flat ∧ p.length ≤ 40 := by
  simp only [GoodRV, Bool.and_eq_true, decide_eq_true_eq] at h
  obtain ⟨h1, h2, h3⟩ := h
  obtain ⟨t, a, b⟩ := tree_of p h3
  subst b
  exact ⟨t, a, fun x hx => List.all_eq_true.1 h2 x hx, rfl, h1⟩
theorem tree_good {t : Pt} (h1 : t.ok) (h2 : t.sets) : GoodRV t.flat = decide (t.flat.length ≤ 40) := by
  simp only [GoodRV]
  rw [List.all_eq_true.2 h2, stack_tree t h1]; simp
/-- A node that is no set's has none. -/
theorem set_none {n : S49} (h : setOk n = true) (h2 : n.f0 ≠ 2) : n.f1 = [] := by
  simp only [setOk, Bool.and_eq_true, Bool.or_eq_true, decide_eq_true_eq, List.length_eq_zero_iff] at h
  rcases h.2.2 with h | h
  · exact absurd h h2
  · exact h
theorem nd_eq {n : S49} (h : setOk n = true) (h2 : n.f0 ≠ 2) : n = nd n.f0 := by
  obtain ⟨a, b⟩ := n
  have := set_none h h2
  simp only at this
  subst this
  rfl
theorem ar_ne {a : Int} (h : arV a ≠ 0) : a ≠ 2 := by
  rintro rfl
  exact h (by simp [arV])
/-- The parts of each ReCat the other way round. -/
def Pt.rev : Pt → Pt
  | .l n => .l n
  | .u n a => .u (nd n.f0) a.rev
  | .b n x y => if n.f0 = 3 then .b (nd n.f0) y.rev x.rev else .b (nd n.f0) x.rev y.rev
theorem Pt.rev_ok : ∀ t : Pt, t.ok → t.rev.ok
  | .l _, h => h
  | .u _ a, h => ⟨h.1, a.rev_ok h.2⟩
  | .b n x y, h => by
    unfold Pt.rev
    split
    · exact ⟨h.1, y.rev_ok h.2.2, x.rev_ok h.2.1⟩
    · exact ⟨h.1, x.rev_ok h.2.1, y.rev_ok h.2.2⟩
theorem Pt.rev_sets : ∀ t : Pt, t.sets → t.rev.sets
  | .l _, h => h
  | .u _ a, h => Pt.sets_u.2 ⟨a.rev_sets (Pt.sets_u.1 h).1, nd_ok _⟩
  | .b n x y, h => by
    obtain ⟨h1, h2, _⟩ := Pt.sets_b.1 h
    unfold Pt.rev
    split
    · exact Pt.sets_b.2 ⟨y.rev_sets h2, x.rev_sets h1, nd_ok _⟩
    · exact Pt.sets_b.2 ⟨x.rev_sets h1, y.rev_sets h2, nd_ok _⟩
theorem Pt.rev_len : ∀ t : Pt, t.rev.flat.length = t.flat.length
  | .l _ => rfl
  | .u _ a => by simp [Pt.rev, Pt.flat, a.rev_len]
  | .b n x y => by
    unfold Pt.rev
    split <;> simp [Pt.flat, x.rev_len, y.rev_len] <;> omega
/-- Two nodes, two patterns are the same. -/
def sameN (x y : S49) : Bool := x.f0 == y.f0 && x.f1 == y.f1
def sameP : List S49 → List S49 → Bool
  | [], [] => true
  | x :: a, y :: b => sameN x y && sameP a b
  | _, _ => false
theorem sameN_eq {x y : S49} : sameN x y = true ↔ x = y := by
  obtain ⟨a, b⟩ := x
  obtain ⟨c, d⟩ := y
  simp [sameN]
theorem sameP_eq : ∀ {a b : List S49}, sameP a b = true ↔ a = b
  | [], [] => by simp [sameP]
  | x :: a, y :: b => by simp [sameP, sameN_eq, sameP_eq (a := a) (b := b)]
  | [], _ :: _ => by simp [sameP]
  | _ :: _, [] => by simp [sameP]
/-- A tree's nodes that are well set: a list of them. -/
def isTree (p : List S49) : Prop := ∃ t : Pt, t.ok ∧ t.sets ∧ p = t.flat
theorem isTree.pos {p : List S49} (h : isTree p) : 0 < p.length := by
  obtain ⟨t, _, _, rfl⟩ := h
  exact t.flat_pos
theorem isTree_nd0 {op : Int} (h : arV op = 0) : isTree [nd op] := ⟨.l (nd op), h, Pt.sets_l.2 (nd_ok op), rfl⟩
theorem isTree_1 {op : Int} {p : List S49} (h : arV op = 1) (hp : isTree p) : isTree (p ++ [nd op]) := by
  obtain ⟨t, a, b, rfl⟩ := hp
  exact ⟨.u (nd op) t, ⟨h, a⟩, Pt.sets_u.2 ⟨b, nd_ok op⟩, rfl⟩
theorem isTree_2 {op : Int} {p q : List S49} (h : arV op = 2) (hp : isTree p) (hq : isTree q) : isTree (p ++ (q ++ [nd op])) := by
  obtain ⟨t, a, b, rfl⟩ := hp
  obtain ⟨t', a', b', rfl⟩ := hq
  exact ⟨.b (nd op) t t', ⟨h, a, a'⟩, Pt.sets_b.2 ⟨b, b', nd_ok op⟩, rfl⟩
/-- The last node's op. -/
def lastOp (p : List S49) : Int := (p.getLastD ⟨0, []⟩).f0
theorem lastOp_snoc (p : List S49) (n : S49) : lastOp (p ++ [n]) = n.f0 := by simp [lastOp]
theorem isTree_not {p : List S49} (hp : isTree p) (h : arV (lastOp p) = 1) : isTree p.dropLast := by
  obtain ⟨t, a, b, rfl⟩ := hp
  cases t with
  | l n => simp only [Pt.flat, lastOp, List.getLastD_cons, List.getLastD_nil] at h; simp only [Pt.ok] at a; omega
  | u n t => exact ⟨t, a.2, (Pt.sets_u.1 b).1, by simp [Pt.flat]⟩
  | b n x y =>
    exfalso
    have : lastOp (Pt.b n x y).flat = n.f0 := by
      rw [show (Pt.b n x y).flat = (x.flat ++ y.flat) ++ [n] from by simp [Pt.flat]]; exact lastOp_snoc _ _
    rw [this] at h
    have := a.1
    omega
/-- What a node of tidy parts is tidied to. -/
def isNo (p : List S49) : Bool := sameP p [nd 2]
def isNi (p : List S49) : Bool := sameP p [nd 1]
def tidied1 (op : Int) (a : List S49) : List S49 :=
  if op = 6 then (if isNi a = true then [nd 1] else if isNo a = true then [nd 1] else if lastOp a = 6 then a else a ++ [nd op]) else if lastOp a = 7 then a.dropLast else a ++ [nd op]
def tidied2 (op : Int) (a b : List S49) : List S49 :=
  if op = 3 then (if isNo a = true then [nd 2] else if isNo b = true then [nd 2] else if isNi a = true then b else if isNi b = true then a else a ++ (b ++ [nd op]))
  else if op = 4 then (if isNo a = true then b else if sameP a b = true then b else if isNo b = true then a else a ++ (b ++ [nd op]))
  else (if isNo a = true then [nd 2] else if isNo b = true then [nd 2] else if sameP a b = true then a else a ++ (b ++ [nd op]))
def Pt.tid : Pt → List S49
  | .l n => [n]
  | .u n a => tidied1 n.f0 a.tid
  | .b n x y => tidied2 n.f0 x.tid y.tid
theorem isTree_tidied1 {op : Int} {a : List S49} (h : arV op = 1) (ha : isTree a) : isTree (tidied1 op a) := by
  unfold tidied1
  split
  · repeat' split
    all_goals first
      | exact isTree_nd0 (by simp [arV])
      | exact isTree_1 h ha
      | exact ha
  · split
    · rename_i e
      exact isTree_not ha (by rw [e]; simp [arV])
    · exact isTree_1 h ha
theorem isTree_tidied2 {op : Int} {a b : List S49} (h : arV op = 2) (ha : isTree a) (hb : isTree b) : isTree (tidied2 op a b) := by
  unfold tidied2
  repeat' split
  all_goals first
    | exact isTree_nd0 (by simp [arV])
    | exact isTree_2 h ha hb
    | assumption
theorem Pt.tid_tree : ∀ t : Pt, t.ok → t.sets → isTree t.tid
  | .l n, h, hs => ⟨.l n, h, hs, rfl⟩
  | .u n a, h, hs => isTree_tidied1 h.1 (a.tid_tree h.2 (Pt.sets_u.1 hs).1)
  | .b n x y, h, hs => isTree_tidied2 h.1 (x.tid_tree h.2.1 (Pt.sets_b.1 hs).1) (y.tid_tree h.2.2 (Pt.sets_b.1 hs).2.1)
theorem tidied1_len (op : Int) (a : List S49) (_ha : 0 < a.length) : (tidied1 op a).length ≤ a.length + 1 := by
  unfold tidied1
  repeat' split
  all_goals first | omega | (simp <;> omega)
theorem tidied2_len (op : Int) (a b : List S49) : (tidied2 op a b).length ≤ a.length + b.length + 1 := by
  unfold tidied2
  repeat' split
  all_goals first | omega | (simp <;> omega)
theorem Pt.tid_len : ∀ t : Pt, t.ok → t.sets → t.tid.length ≤ t.flat.length
  | .l n, _, _ => by simp [Pt.tid, Pt.flat]
  | .u n a, h, hs => by
    have h1 := a.tid_len h.2 (Pt.sets_u.1 hs).1
    have h2 := tidied1_len n.f0 a.tid (a.tid_tree h.2 (Pt.sets_u.1 hs).1).pos
    simp only [Pt.tid, Pt.flat, List.length_append, List.length_singleton]; omega
  | .b n x y, h, hs => by
    have h1 := x.tid_len h.2.1 (Pt.sets_b.1 hs).1
    have h2 := y.tid_len h.2.2 (Pt.sets_b.1 hs).2.1
    have h3 := tidied2_len n.f0 x.tid y.tid
    simp only [Pt.tid, Pt.flat, List.length_append, List.length_singleton]; omega
theorem rdS_mid (pre : List S49) (x : S49) (post : List S49) : rd_T49 (pre ++ x :: post) ((pre.length : Nat) : Int) = x := by
  rw [rdS_I _ _ (by simp)]; simp
/-- How many marks a list takes. -/
def totRe : List S49 → Int
  | [] => 0
  | x :: l => 1 + (x.f1.length : Int) + totRe l
theorem totRe_pos : ∀ l : List S49, 0 ≤ totRe l
  | [] => Int.le_refl _
  | x :: l => by have := totRe_pos l; simp only [totRe]; omega
theorem totRe_le (B : Int) : ∀ l : List S49, (∀ x ∈ l, (x.f1.length : Int) ≤ B) → totRe l ≤ (l.length : Int) * (1 + B)
  | [], _ => by simp [totRe]
  | x :: l, h => by
    have h1 := totRe_le B l (fun y hy => h y (List.mem_cons_of_mem _ hy))
    have h2 := h x List.mem_cons_self
    simp only [totRe, List.length_cons]
    rw [show ((l.length + 1 : Nat) : Int) * (1 + B) = (l.length : Int) * (1 + B) + (1 + B) from by rw [Int.natCast_add, Int.add_mul]; simp]
    omega
def markL : Int → List S49 → List S49
  | _, [] => []
  | m, x :: l => ⟨m, iota (m + 1) x.f1.length⟩ :: markL (m + 1 + (x.f1.length : Int)) l
theorem markRe_l : ∀ (l pre : List S49) (m : Int), 0 ≤ m → m + totRe l ≤ 4611686018427387904 → pre.length + l.length ≤ 1000000000 → Ev (fun k => laws_markReS.l0 k (pre ++ l) m ((pre.length : Nat) : Int)) (m + totRe l, pre ++ markL m l)
  | [], pre, m, _, _, _ => by
    refine Ev.step (f := fun _ => some (m, pre)) (fun k => ?_) (by simpa [totRe, markL] using Ev.now (m, pre))
    simp only [laws_markReS.l0, List.append_nil]
    rw [if_neg (by omega)]
  | x :: l, pre, m, h0, h1, h2 => by
    have ht := totRe_pos l
    simp only [totRe] at h1
    simp only [List.length_cons] at h2
    have e1 : wrap64 (m + 1) = m + 1 := wr _ (by omega) (by omega)
    have e2 : wrap64 (((pre.length : Nat) : Int) + 1) = (((pre ++ [(⟨m, iota (m + 1) x.f1.length⟩ : S49)]).length : Nat) : Int) := by rw [wr _ (by omega) (by omega)]; simp
    have ih := markRe_l l (pre ++ [⟨m, iota (m + 1) x.f1.length⟩]) (m + 1 + (x.f1.length : Int)) (by omega) (by omega) (by simp; omega)
    refine Ev.step (f := fun k => (laws_markIntS.f k x.f1 (m + 1)).bind fun q => laws_markReS.l0 k ((pre ++ x :: l).set (((pre.length : Nat) : Int)).toNat ⟨m, q.2⟩) q.1 (((pre ++ [(⟨m, iota (m + 1) x.f1.length⟩ : S49)]).length : Nat) : Int)) (fun k => ?_) (Ev.bind (markIntS_ev x.f1 (m + 1) (by omega) (by omega)) ?_)
    · simp only [laws_markReS.l0]
      rw [if_pos (by simp only [List.length_append, List.length_cons]; omega)]
      (try rw [if_pos (show (0 : Int) ≤ ((pre.length : Nat) : Int) from by omega)])
      rw [rdS_mid, e1, e2]
    · refine Ev.congr (fun k => ?_) (by simpa [totRe, markL, List.append_assoc, Int.add_assoc] using ih)
      simp [List.append_assoc, Int.add_assoc]
theorem markRe_ev (l : List S49) (h1 : l.length ≤ 1000000000) (h2 : totRe l ≤ 2305843009213693952) : Ev (fun k => laws_markReS.f k l 1) (1 + totRe l, markL 1 l) :=
  Ev.congr (fun k => by unfold laws_markReS.f; rfl) (markRe_l l [] 1 (by omega) (by omega) (by simpa using h1))
theorem heldRe_l : ∀ (l pre : List S49) (m : Int), 0 ≤ m → m + totRe l ≤ 4611686018427387904 → pre.length + l.length ≤ 1000000000 → Ev (fun k => laws_heldReS.l0 k (pre ++ markL m l) m ((pre.length : Nat) : Int)) (m + totRe l)
  | [], pre, m, _, _, _ => by
    refine Ev.step (f := fun _ => some m) (fun k => ?_) (by simpa [totRe] using Ev.now m)
    simp only [laws_heldReS.l0, markL, List.append_nil]
    rw [if_neg (by omega)]
  | x :: l, pre, m, h0, h1, h2 => by
    have ht := totRe_pos l
    simp only [totRe] at h1
    simp only [List.length_cons] at h2
    have e1 : wrap64 (m + 1) = m + 1 := wr _ (by omega) (by omega)
    have e2 : wrap64 (((pre.length : Nat) : Int) + 1) = (((pre ++ [(⟨m, iota (m + 1) x.f1.length⟩ : S49)]).length : Nat) : Int) := by rw [wr _ (by omega) (by omega)]; simp
    have ih := heldRe_l l (pre ++ [⟨m, iota (m + 1) x.f1.length⟩]) (m + 1 + (x.f1.length : Int)) (by omega) (by omega) (by simp; omega)
    refine Ev.step (f := fun k => (laws_heldIntS.f k (iota (m + 1) x.f1.length) (m + 1)).bind fun t => if t < 0 then some (-1) else laws_heldReS.l0 k (pre ++ markL m (x :: l)) t (((pre ++ [(⟨m, iota (m + 1) x.f1.length⟩ : S49)]).length : Nat) : Int)) (fun k => ?_) (Ev.bind (heldIntS_ev (m + 1) x.f1.length (by omega) (by omega)) ?_)
    · have er : rd_T49 (pre ++ markL m (x :: l)) ((pre.length : Nat) : Int) = ⟨m, iota (m + 1) x.f1.length⟩ := rdS_mid pre _ _
      simp only [laws_heldReS.l0]
      rw [if_pos (by simp only [markL, List.length_append, List.length_cons]; omega)]
      (try rw [if_pos (show (0 : Int) ≤ ((pre.length : Nat) : Int) from by omega)])
      rw [er, if_pos rfl, e1, e2]
    · refine Ev.congr (f := fun k => laws_heldReS.l0 k (pre ++ [(⟨m, iota (m + 1) x.f1.length⟩ : S49)] ++ markL (m + 1 + (x.f1.length : Int)) l) (m + 1 + (x.f1.length : Int)) (((pre ++ [(⟨m, iota (m + 1) x.f1.length⟩ : S49)]).length : Nat) : Int)) (fun k => ?_) (by simpa [totRe, Int.add_assoc] using ih)
      rw [if_neg (by omega)]
      simp [markL, List.append_assoc]
theorem heldRe_ev (l : List S49) (h1 : l.length ≤ 1000000000) (h2 : totRe l ≤ 2305843009213693952) : Ev (fun k => laws_heldReS.f k (markL 1 l) 1) (1 + totRe l) :=
  Ev.congr (fun k => by unfold laws_heldReS.f; rfl) (heldRe_l l [] 1 (by omega) (by omega) (by simpa using h1))
theorem specOwnI_v (l : List Int) (h : l.length ≤ 1099511627776) : spec_l1Own.f l = some l := by
  unfold spec_l1Own.f
  rw [Option.bind_some, if_pos (by simp; omega)]
  simp
theorem specOwn_l (l : List S49) (hl : l.length ≤ 1000000) (hr : ∀ x ∈ l, x.f1.length ≤ 1048576) : ∀ (d j : Nat), j + d = l.length → Ev (fun k => spec_l5Own.l0 k (l.take j) l (l.length : Int) (j : Int)) l := by
  intro d
  induction d with
  | zero =>
    intro j hj
    refine Ev.step (f := fun _ => some l) (fun k => ?_) (Ev.now _)
    simp only [spec_l5Own.l0]
    rw [if_neg (by omega), List.take_of_length_le (by omega)]
  | succ d ih =>
    intro j hj
    have hj' : j < l.length := by omega
    have e1 : wrap64 ((j : Int) + 1) = ((j + 1 : Nat) : Int) := by rw [wr _ (by omega) (by omega)]; omega
    refine Ev.step (f := fun k => spec_l5Own.l0 k (l.take (j + 1)) l (l.length : Int) ((j + 1 : Nat) : Int)) (fun k => ?_) (ih (j + 1) (by omega))
    simp only [spec_l5Own.l0]
    rw [if_pos (by omega), if_pos (by omega), if_pos (by omega), rdS_I l j hj', specOwnI_v _ (by have := hr _ (List.getElem_mem hj'); omega), Option.bind_some, if_pos (by rw [List.length_take]; omega), e1, List.take_succ_eq_append_getElem hj']
theorem specOwn_ev (l : List S49) (hl : l.length ≤ 1000000) (hr : ∀ x ∈ l, x.f1.length ≤ 1048576) : Ev (fun k => spec_l5Own.f k l) l :=
  Ev.congr (fun k => by unfold spec_l5Own.f; simp) (specOwn_l l hl hr l.length 0 (by omega))
theorem rd_root (pre post : List S49) (n : S49) (L : List S49) (i : Int) (e : L = pre ++ (n :: post)) (hi : i = (pre.length : Int)) : rd_T49 L i = n := by rw [e, hi]; exact rdS_mid pre n post
theorem clonePat_l (l : List S49) (hl : l.length ≤ 1000000) (hr : ∀ x ∈ l, x.f1.length ≤ 1048576) : ∀ (d j : Nat), j + d = l.length → Ev (fun k => impl_clonePat.l0 k (l.take j) l (l.length : Int) (j : Int)) l := by
  intro d
  induction d with
  | zero =>
    intro j hj
    refine Ev.step (f := fun _ => some l) (fun k => ?_) (Ev.now _)
    simp only [impl_clonePat.l0]
    rw [if_neg (by omega), List.take_of_length_le (by omega)]
  | succ d ih =>
    intro j hj
    have hj' : j < l.length := by omega
    have e1 : wrap64 ((j : Int) + 1) = ((j + 1 : Nat) : Int) := by rw [wr _ (by omega) (by omega)]; omega
    refine Ev.step (f := fun k => impl_clonePat.l0 k (l.take (j + 1)) l (l.length : Int) ((j + 1 : Nat) : Int)) (fun k => ?_) (ih (j + 1) (by omega))
    simp only [impl_clonePat.l0]
    rw [if_pos (by omega), if_pos (by omega), if_pos (by omega), rdS_I l j hj', clone_v _ (by have := hr _ (List.getElem_mem hj'); omega), Option.bind_some, if_pos (by rw [List.length_take]; omega), e1, List.take_succ_eq_append_getElem hj']
theorem clonePat_ev (l : List S49) (hl : l.length ≤ 1000000) (hr : ∀ x ∈ l, x.f1.length ≤ 1048576) : Ev (fun k => impl_clonePat.f k l) l :=
  Ev.congr (fun k => by unfold impl_clonePat.f; simp) (clonePat_l l hl hr l.length 0 (by omega))
theorem goodPat_ev (l : List S49) (hl : l.length ≤ 1000000) (hr : ∀ x ∈ l, x.f1.length ≤ 1048576) : Ev (fun k => impl_goodPat.f k l) (if GoodRV l = true then (l, true) else ([], false)) := by
  unfold impl_goodPat.f
  refine Ev.bind (implGoodRe_ev l (by omega) hr) ?_
  cases hg : GoodRV l with
  | true => exact Ev.congr (fun k => by rw [if_pos rfl]) (Ev.bind (clonePat_ev l hl hr) (Ev.now _))
  | false => exact Ev.congr (f := fun _ => some (([] : List S49), false)) (fun k => by rw [if_neg (by simp)]) (Ev.now _)
theorem sets_len {t : Pt} (h : t.sets) : ∀ x ∈ t.flat, x.f1.length ≤ 1048576 := by
  intro x hx
  have := h x hx
  simp only [setOk, Bool.and_eq_true] at this
  have := (goodS_facts _ this.1).1
  omega
/-- The spans of a set. -/
def spansV : List Int → List S92
  | a :: b :: r => ⟨a, b⟩ :: spansV r
  | _ => []

theorem spansV_length (l : List Int) : (spansV l).length ≤ l.length := by
  match l with
  | [] => simp [spansV]
  | [_] => simp [spansV]
  | a :: b :: r =>
    have := spansV_length r
    simp only [spansV, List.length_cons]
    omega
termination_by l.length

theorem spansOf_l (l : List Int) (hl : l.length ≤ 4398046511104) : ∀ (d j : Nat) (acc : List S92), l.length ≤ j + 2 * d → j ≤ l.length + 1 → acc.length ≤ j → Ev (fun k => impl_spansOf.l0 k l acc (j : Int)) (acc ++ spansV (l.drop j)) := by
  intro d
  induction d with
  | zero =>
    intro j acc hj hj2 ha
    refine Ev.step (f := fun _ => some (acc ++ spansV (l.drop j))) (fun k => ?_) (Ev.now _)
    simp only [impl_spansOf.l0]
    rw [wr _ (by omega) (by omega), if_neg (by omega), List.drop_of_length_le (by omega)]
    simp [spansV]
  | succ d ih =>
    intro j acc hj hj2 ha
    have e1 : wrap64 ((j : Int) + 1) = ((j + 1 : Nat) : Int) := by rw [wr _ (by omega) (by omega)]; omega
    have e2 : wrap64 ((j : Int) + 2) = ((j + 2 : Nat) : Int) := by rw [wr _ (by omega) (by omega)]; omega
    by_cases h : j + 1 < l.length
    · refine Ev.step (f := fun k => impl_spansOf.l0 k l (acc ++ [(⟨l[j]'(by omega), l[j + 1]'(by omega)⟩ : S92)]) ((j + 2 : Nat) : Int)) (fun k => ?_) ?_
      · simp only [impl_spansOf.l0]
        rw [e1, if_pos (by omega), if_pos (by omega), if_pos (by omega), if_pos (by omega), if_pos (by omega), rd_at l j (by omega), rd_at l (j + 1) (by omega), e2]
      · have := ih (j + 2) (acc ++ [(⟨l[j]'(by omega), l[j + 1]'(by omega)⟩ : S92)]) (by omega) (by omega) (by simp; omega)
        rw [drop_at l j (by omega), drop_at l (j + 1) (by omega)]
        simpa only [spansV, List.append_assoc, List.singleton_append] using this
    · refine Ev.step (f := fun _ => some (acc ++ spansV (l.drop j))) (fun k => ?_) (Ev.now _)
      simp only [impl_spansOf.l0]
      rw [e1, if_neg (by omega)]
      have : spansV (l.drop j) = [] := by
        by_cases z : j < l.length
        · rw [drop_at l j z, List.drop_of_length_le (by omega)]
          rfl
        · rw [List.drop_of_length_le (by omega)]
          rfl
      rw [this, List.append_nil]

theorem spansOf_ev (l : List Int) (hl : l.length ≤ 4398046511104) : Ev (fun k => impl_spansOf.f k l) (spansV l) :=
  Ev.congr (fun k => by unfold impl_spansOf.f; rfl) (by simpa using spansOf_l l hl (l.length) 0 [] (by omega) (by omega) (by simp))

theorem rdS_at (l : List S92) (j : Nat) (h : j < l.length) : rd_T92 l (j : Int) = l[j] := by unfold rd_T92; simp [List.getD_eq_getElem?_getD, h]

/-- Is a number in a set? -/
def memV (r : Int) : List Int → Bool
  | a :: b :: t => inB a b r || memV r t
  | _ => false

theorem specIn_l (l : List Int) (r : Int) (hl : l.length ≤ 4398046511104) : ∀ (d j : Nat), j + 2 * d = l.length → Ev (fun k => spec_l4In.l0 k l r (j : Int)) (memV r (l.drop j)) := by
  intro d
  induction d with
  | zero =>
    intro j hj
    refine Ev.step (f := fun _ => some (memV r (l.drop j))) (fun k => ?_) (Ev.now _)
    simp only [spec_l4In.l0]
    rw [if_neg (by omega), List.drop_of_length_le (by omega)]
    rfl
  | succ d ih =>
    intro j hj
    have e1 : wrap64 ((j : Int) + 1) = ((j + 1 : Nat) : Int) := by rw [wr _ (by omega) (by omega)]; omega
    have e2 : wrap64 ((j : Int) + 2) = ((j + 2 : Nat) : Int) := by rw [wr _ (by omega) (by omega)]; omega
    have hd : l.drop j = l[j]'(by omega) :: l[j + 1]'(by omega) :: l.drop (j + 2) := by rw [drop_at l j (by omega), drop_at l (j + 1) (by omega)]
    rw [hd, memV]
    cases h : inB (l[j]'(by omega)) (l[j + 1]'(by omega)) r with
    | true =>
      refine Ev.step (f := fun _ => some true) (fun k => ?_) (by simpa using Ev.now true)
      simp only [spec_l4In.l0]
      rw [e1, if_pos (by omega), if_pos (by omega), if_pos (by omega), if_pos (by omega), rd_at l j (by omega), rd_at l (j + 1) (by omega), in_s, h]
      simp
    | false =>
      refine Ev.step (f := fun k => spec_l4In.l0 k l r ((j + 2 : Nat) : Int)) (fun k => ?_) (by simpa using ih (j + 2) (by omega))
      simp only [spec_l4In.l0]
      rw [e1, if_pos (by omega), if_pos (by omega), if_pos (by omega), if_pos (by omega), rd_at l j (by omega), rd_at l (j + 1) (by omega), in_s, h, e2]
      simp

theorem specIn_ev (l : List Int) (r : Int) (hl : l.length ≤ 4398046511104) (he : l.length % 2 = 0) : Ev (fun k => spec_l4In.f k l r) (memV r l) :=
  Ev.congr (fun k => by unfold spec_l4In.f; rfl) (by simpa using specIn_l l r hl (l.length / 2) 0 (by omega))

theorem inSpans_mem (r : Int) (l : List Int) : inSpans r (spansV l) = memV r l := by
  match l with
  | [] => rfl
  | [_] => rfl
  | a :: b :: t =>
    have ih := inSpans_mem r t
    unfold inSpans at ih ⊢
    simp only [spansV, memV, List.any_cons, ih]
    rfl
termination_by l.length

theorem implIn_ev (l : List Int) (r : Int) (hl : l.length ≤ 4398046511104) : Ev (fun k => impl_inSet.f k l r) (memV r l) := by
  unfold impl_inSet.f
  refine Ev.bind (spansOf_ev l hl) ?_
  rw [inSpans_mem]
  exact Ev.now _

theorem good_cons {a x y : Int} {r : List Int} : Good a (x :: y :: r) = true ↔ a ≤ x ∧ x ≤ y ∧ y ≤ 1114111 ∧ Good (y + 2) r = true := by
  simp only [Good, Bool.and_eq_true, decide_eq_true_eq]
  exact ⟨fun h => ⟨h.1.1.1, h.1.1.2, h.1.2, h.2⟩, fun h => ⟨⟨⟨h.1, h.2.1⟩, h.2.2.1⟩, h.2.2.2⟩⟩

theorem good_mem_ge (l : List Int) : ∀ a r, Good a l = true → memV r l = true → a ≤ r ∧ r ≤ 1114111 := by
  match l with
  | [] => intro a r _ h; simp [memV] at h
  | [_] => intro a r _ h; simp [memV] at h
  | x :: y :: t =>
    intro a r h hm
    obtain ⟨h1, h2, h3, h4⟩ := good_cons.1 h
    simp only [memV, Bool.or_eq_true, inB_iff] at hm
    rcases hm with hm | hm
    · omega
    · have := good_mem_ge t _ r h4 hm
      omega
termination_by l.length

theorem inB_false {a b n : Int} (h : ¬ (a ≤ n ∧ n ≤ b)) : inB a b n = false := by
  cases e : inB a b n with
  | false => rfl
  | true => exact absurd ((inB_iff _ _ _).1 e) h

theorem mem_low (l : List Int) (a r : Int) (h : Good a l = true) (hr : r < a) : memV r l = false := by
  cases e : memV r l with
  | false => rfl
  | true =>
    have := good_mem_ge l a r h e
    omega

/-- Two sets with the same runes are one. -/
theorem good_ext (l : List Int) : ∀ (m : List Int) (a b : Int), Good a l = true → Good b m = true → (∀ n, memV n l = memV n m) → l = m := by
  match l with
  | [] =>
    intro m a b h1 h2 h
    match m with
    | [] => rfl
    | [_] => simp [Good] at h2
    | x :: y :: r =>
      obtain ⟨g1, g2, g3, g4⟩ := good_cons.1 h2
      have := h x
      rw [memV, (inB_iff x y x).2 ⟨by omega, g2⟩] at this
      simp [memV] at this
  | [_] => intro m a b h1; simp [Good] at h1
  | x :: y :: r =>
    intro m a b h1 h2 h
    obtain ⟨g1, g2, g3, g4⟩ := good_cons.1 h1
    match m with
    | [] =>
      have := h x
      rw [memV, (inB_iff x y x).2 ⟨by omega, g2⟩] at this
      simp [memV] at this
    | [_] => simp [Good] at h2
    | x' :: y' :: r' =>
      obtain ⟨f1, f2, f3, f4⟩ := good_cons.1 h2
      have e1 : x = x' := by
        have p := h x
        have q := h x'
        rw [memV, (inB_iff x y x).2 ⟨by omega, g2⟩, Bool.true_or] at p
        rw [show memV x' (x' :: y' :: r') = (inB x' y' x' || memV x' r') from rfl, (inB_iff x' y' x').2 ⟨by omega, f2⟩, Bool.true_or] at q
        have p1 := good_mem_ge _ x' x (good_cons.2 ⟨by omega, f2, f3, f4⟩) p.symm
        have q1 := good_mem_ge _ x x' (good_cons.2 ⟨by omega, g2, g3, g4⟩) q
        omega
      subst e1
      have e2 : y = y' := by
        have side : ∀ (u v : Int) (s s' : List Int), x ≤ u → Good (u + 2) s = true → (∀ n, memV n (x :: u :: s) = memV n (x :: v :: s')) → ¬ u < v := by
          intro u v s s' hu hg hh hlt
          have p := hh (u + 1)
          rw [show memV (u + 1) (x :: u :: s) = (inB x u (u + 1) || memV (u + 1) s) from rfl, show memV (u + 1) (x :: v :: s') = (inB x v (u + 1) || memV (u + 1) s') from rfl, inB_false (by omega), mem_low s _ _ hg (by omega), (inB_iff x v (u + 1)).2 ⟨by omega, by omega⟩] at p
          simp at p
        have p := side y y' r r' g2 g4 h
        have q := side y' y r' r f2 f4 (fun n => (h n).symm)
        omega
      subst e2
      have e3 : r = r' := by
        refine good_ext r r' (y + 2) (y + 2) g4 f4 fun n => ?_
        by_cases hn : n < y + 2
        · rw [mem_low r _ _ g4 hn, mem_low r' _ _ f4 hn]
        · have := h n
          rw [show memV n (x :: y :: r) = (inB x y n || memV n r) from rfl, show memV n (x :: y :: r') = (inB x y n || memV n r') from rfl, inB_false (by omega), Bool.false_or, Bool.false_or] at this
          exact this
      rw [e3]
termination_by l.length
/-- A span added to a set. -/
def addV (a b : Int) : List Int → List Int
  | x :: y :: r => if y < a - 1 then x :: y :: addV a b r else if x > b + 1 then a :: b :: x :: y :: r else addV (if a < x then a else x) (if b > y then b else y) r
  | _ => [a, b]
termination_by l => l.length

theorem add_cons (a b x y : Int) (r : List Int) : addV a b (x :: y :: r) = if y < a - 1 then x :: y :: addV a b r else if x > b + 1 then a :: b :: x :: y :: r else addV (if a < x then a else x) (if b > y then b else y) r := by rw [addV]
theorem add_nil (a b : Int) : addV a b [] = [a, b] := by rw [addV]; intro x y r h; cases h

theorem add_good (l : List Int) : ∀ (c a b : Int), Good c l = true → c ≤ a → a ≤ b → b ≤ 1114111 → Good c (addV a b l) = true := by
  match l with
  | [] => intro c a b _ h1 h2 h3; rw [add_nil]; exact good_cons.2 ⟨h1, h2, h3, rfl⟩
  | [_] => intro c a b h; simp [Good] at h
  | x :: y :: r =>
    intro c a b h h1 h2 h3
    obtain ⟨g1, g2, g3, g4⟩ := good_cons.1 h
    rw [add_cons]
    by_cases c1 : y < a - 1
    · rw [if_pos c1]
      exact good_cons.2 ⟨g1, g2, g3, add_good r (y + 2) a b g4 (by omega) h2 h3⟩
    · rw [if_neg c1]
      by_cases c2 : x > b + 1
      · rw [if_pos c2]
        exact good_cons.2 ⟨h1, h2, h3, good_cons.2 ⟨by omega, g2, g3, g4⟩⟩
      · rw [if_neg c2]
        exact add_good r c _ _ (good_mono r c (y + 2) (by omega) g4) (by split <;> omega) (by split <;> split <;> omega) (by split <;> omega)
termination_by l.length

theorem add_mem (l : List Int) (n : Int) : ∀ (c a b : Int), Good c l = true → a ≤ b → memV n (addV a b l) = (inB a b n || memV n l) := by
  match l with
  | [] => intro c a b _ _; rw [add_nil]; rfl
  | [_] => intro c a b h; simp [Good] at h
  | x :: y :: r =>
    intro c a b h h2
    obtain ⟨g1, g2, g3, g4⟩ := good_cons.1 h
    rw [add_cons]
    by_cases c1 : y < a - 1
    · rw [if_pos c1, memV, add_mem r n (y + 2) a b g4 h2, memV, ← Bool.or_assoc, ← Bool.or_assoc, Bool.or_comm (inB x y n)]
    · rw [if_neg c1]
      by_cases c2 : x > b + 1
      · rw [if_pos c2, memV]
      · rw [if_neg c2, add_mem r n (y + 2) _ _ g4 (by split <;> split <;> omega), memV, ← Bool.or_assoc]
        congr 1
        rw [Bool.eq_iff_iff, Bool.or_eq_true, inB_iff, inB_iff, inB_iff]
        split <;> split <;> omega
termination_by l.length

theorem add_length (l : List Int) : ∀ (a b : Int), (addV a b l).length ≤ l.length + 2 := by
  match l with
  | [] => intro a b; rw [add_nil]; simp
  | [_] => intro a b; rw [addV]; simp; intro x y r h; simp at h
  | x :: y :: r =>
    intro a b
    rw [add_cons]
    by_cases c1 : y < a - 1
    · rw [if_pos c1]
      have := add_length r a b
      simp only [List.length_cons]; omega
    · rw [if_neg c1]
      by_cases c2 : x > b + 1
      · rw [if_pos c2]; simp
      · rw [if_neg c2]
        have := add_length r (if a < x then a else x) (if b > y then b else y)
        simp only [List.length_cons]; omega
termination_by l.length

theorem own_ev (l : List Int) (hl : l.length ≤ 4398046511104) : spec_l1Own.f l = some l := by
  unfold spec_l1Own.f
  simp only [Option.bind_some]
  rw [if_pos (by simp; omega)]
  simp

theorem least_ev (a b : Int) : spec_l1Least.f a b = some (if a < b then a else b) := by unfold spec_l1Least.f; split <;> rfl
theorem most_ev (a b : Int) : spec_l1Most.f a b = some (if a > b then a else b) := by unfold spec_l1Most.f; split <;> rfl

theorem add_l1 (a b : Int) (acc : List Int) (hl : acc.length ≤ 4398046511104) (p : Nat) (hp : p ≤ acc.length) (he : p % 2 = 0) (hlt : ∀ i, i < p → acc.getD i 0 < a) (hge : p < acc.length → a ≤ acc.getD p 0) : ∀ (d j : Nat), j + 2 * d = p → Ev (fun k => spec_l4Add.l1 k a b acc (j : Int)) (acc.take p ++ [a, b] ++ acc.drop p) := by
  intro d
  induction d with
  | zero =>
    intro j hj
    have ej : j = p := by omega
    subst ej
    have t1 : (acc.take j).length ≤ 4398046511104 := by rw [List.length_take]; omega
    have t2 : (acc.take j).length ≤ acc.length := by rw [List.length_take]; omega
    have t3 : (acc.take j ++ [a, b]).length ≤ acc.length + 2 := by rw [List.length_append]; simp only [List.length_cons, List.length_nil]; omega
    have t4 : (acc.drop j).length ≤ acc.length := by rw [List.length_drop]; omega
    refine Ev.step (f := fun _ => some (acc.take j ++ [a, b] ++ acc.drop j)) (fun k => ?_) (Ev.now _)
    simp only [spec_l4Add.l1]
    have body : ((spec_l1Own.f (acc.take ((j : Int)).toNat)).bind fun t147 => ((some (([a, b] : List Int) : List Int)).bind fun y150 => (if t147.length + y150.length < 17592186044416 then ((some (t147 ++ y150 : List Int)).bind fun y153 => ((some (acc.drop ((j : Int)).toNat : List Int)).bind fun y156 => (if y153.length + y156.length < 17592186044416 then (some (y153 ++ y156)) else (none)))) else (none)))) = some (acc.take j ++ [a, b] ++ acc.drop j) := by
      rw [Int.toNat_natCast, own_ev _ t1]
      simp only [Option.bind_some]
      rw [if_pos (by simp only [List.length_cons, List.length_nil]; omega), if_pos (by omega)]
    by_cases h : j < acc.length
    · have := hge h
      rw [getD_at acc j h] at this
      rw [if_pos (by omega), if_pos (by omega), rd_at acc j h, if_neg (by omega), if_pos (by omega)]
      exact body
    · rw [if_neg (by omega), if_pos (by omega), if_pos (by omega)]
      exact body
  | succ d ih =>
    intro j hj
    have e2 : wrap64 ((j : Int) + 2) = ((j + 2 : Nat) : Int) := by rw [wr _ (by omega) (by omega)]; omega
    refine Ev.step (f := fun k => spec_l4Add.l1 k a b acc ((j + 2 : Nat) : Int)) (fun k => ?_) (ih (j + 2) (by omega))
    have := hlt j (by omega)
    rw [getD_at acc j (by omega)] at this
    simp only [spec_l4Add.l1]
    rw [if_pos (by omega), if_pos (by omega), rd_at acc j (by omega), if_pos this, e2]

theorem add_l02 (l : List Int) (hl : l.length ≤ 4398046511104) (a b : Int) (h0 : 0 ≤ a) (hab : a ≤ b) (hb : b ≤ 1114111) (r : List Int) : ∀ (d j : Nat) (acc : List Int), j + 2 * d = l.length → acc.length ≤ j → Good (b + 2) (l.drop j) = true → Ev (fun k => spec_l4Add.l1 k a b (acc ++ l.drop j) ((0 : Nat) : Int)) r → Ev (fun k => spec_l4Add.l0 k l a b acc (j : Int)) r := by
  intro d
  induction d with
  | zero =>
    intro j acc hj ha hg hr
    rw [List.drop_of_length_le (by omega), List.append_nil] at hr
    refine Ev.step (f := fun k => spec_l4Add.l1 k a b acc ((0 : Nat) : Int)) (fun k => ?_) hr
    simp only [spec_l4Add.l0]
    rw [if_neg (by omega)]
    rfl
  | succ d ih =>
    intro j acc hj ha hg hr
    have hd : l.drop j = l[j]'(by omega) :: l[j + 1]'(by omega) :: l.drop (j + 2) := by rw [drop_at l j (by omega), drop_at l (j + 1) (by omega)]
    rw [hd] at hg hr
    obtain ⟨g1, g2, g3, g4⟩ := good_cons.1 hg
    have e1 : wrap64 ((j : Int) + 1) = ((j + 1 : Nat) : Int) := by rw [wr _ (by omega) (by omega)]; omega
    have e2 : wrap64 ((j : Int) + 2) = ((j + 2 : Nat) : Int) := by rw [wr _ (by omega) (by omega)]; omega
    have ih' := ih (j + 2) (acc ++ [l[j]'(by omega), l[j + 1]'(by omega)]) (by omega) (by simp; omega) (good_mono _ _ _ (by omega) g4) (by simpa using hr)
    refine Ev.step (f := fun k => spec_l4Add.j1 k l a b acc (j : Int) true) (fun k => ?_) (Ev.step (f := fun k => spec_l4Add.l0 k l a b (acc ++ [l[j]'(by omega), l[j + 1]'(by omega)]) ((j + 2 : Nat) : Int)) (fun k => ?_) ih')
    · simp only [spec_l4Add.l0]
      rw [e1, if_pos (by omega), if_pos (by omega), if_pos (by omega), rd_at l (j + 1) (by omega), rd_at l j (by omega), wr (a - 1) (by omega) (by omega), wr (b + 1) (by omega) (by omega), if_neg (by omega), if_pos (by omega), show decide (l[j]'(by omega) > b + 1) = true from decide_eq_true (by omega)]
    · simp only [spec_l4Add.j1]
      rw [e1, e2, if_pos trivial, if_pos (by omega), if_pos (by omega), if_pos (by omega), if_pos (by omega), rd_at l (j + 1) (by omega), rd_at l j (by omega)]
      simp only [Option.bind_some]
      rw [if_pos (by simp only [List.length_cons, List.length_nil]; omega)]

theorem getD_mem (l : List Int) (i : Nat) (h : i < l.length) : l.getD i 0 ∈ l := by rw [getD_at l i h]; exact List.getElem_mem _

theorem getD_app1 (l m : List Int) (i : Nat) (h : i < l.length) : (l ++ m).getD i 0 = l.getD i 0 := by simp [List.getD_eq_getElem?_getD, List.getElem?_append_left h]
theorem getD_app2 (l m : List Int) : (l ++ m).getD l.length 0 = m.getD 0 0 := by simp [List.getD_eq_getElem?_getD, List.getElem?_append_right]

theorem add_l01 (l : List Int) (hl : l.length ≤ 2199023255552) : ∀ (d j : Nat) (acc : List Int) (a b c : Int), j + 2 * d = l.length → acc.length ≤ j → acc.length % 2 = 0 → 0 ≤ a → a ≤ b → b ≤ 1114111 → 0 ≤ c → Good c (l.drop j) = true → (∀ z ∈ acc, z < a ∧ z < c) → Ev (fun k => spec_l4Add.l0 k l a b acc (j : Int)) (acc ++ addV a b (l.drop j)) := by
  intro d
  induction d with
  | zero =>
    intro j acc a b c hj ha he h0 h1 h2 hc hg hz
    rw [List.drop_of_length_le (by omega), add_nil]
    refine Ev.step (f := fun k => spec_l4Add.l1 k a b acc ((0 : Nat) : Int)) (fun k => ?_) ?_
    · simp only [spec_l4Add.l0]
      rw [if_neg (by omega)]
      rfl
    · have := add_l1 a b acc (by omega) acc.length (by omega) he (fun i hi => (hz _ (getD_mem acc i hi)).1) (fun h => absurd h (by omega)) (acc.length / 2) 0 (by omega)
      simpa using this
  | succ d ih =>
    intro j acc a b c hj ha he h0 h1 h2 hc hg hz
    have hd : l.drop j = l[j]'(by omega) :: l[j + 1]'(by omega) :: l.drop (j + 2) := by rw [drop_at l j (by omega), drop_at l (j + 1) (by omega)]
    have e1 : wrap64 ((j : Int) + 1) = ((j + 1 : Nat) : Int) := by rw [wr _ (by omega) (by omega)]; omega
    have e2 : wrap64 ((j : Int) + 2) = ((j + 2 : Nat) : Int) := by rw [wr _ (by omega) (by omega)]; omega
    have hg' := hg
    rw [hd] at hg'
    obtain ⟨g1, g2, g3, g4⟩ := good_cons.1 hg'
    by_cases c1 : l[j + 1]'(by omega) < a - 1
    · have ih' := ih (j + 2) (acc ++ [l[j]'(by omega), l[j + 1]'(by omega)]) a b (l[j + 1]'(by omega) + 2) (by omega) (by simp; omega) (by simp; omega) h0 h1 h2 (by omega) g4 (by
        intro z hz'
        simp only [List.mem_append, List.mem_cons, List.not_mem_nil, or_false] at hz'
        rcases hz' with hz' | rfl | rfl
        · have := hz z hz'; omega
        · omega
        · omega)
      rw [hd, add_cons, if_pos c1]
      refine Ev.step (f := fun k => spec_l4Add.j1 k l a b acc (j : Int) true) (fun k => ?_) (Ev.step (f := fun k => spec_l4Add.l0 k l a b (acc ++ [l[j]'(by omega), l[j + 1]'(by omega)]) ((j + 2 : Nat) : Int)) (fun k => ?_) (by simpa using ih'))
      · simp only [spec_l4Add.l0]
        rw [e1, if_pos (by omega), if_pos (by omega), if_pos (by omega), rd_at l (j + 1) (by omega), wr (a - 1) (by omega) (by omega), if_pos c1]
      · simp only [spec_l4Add.j1]
        rw [e1, e2, if_pos trivial, if_pos (by omega), if_pos (by omega), if_pos (by omega), if_pos (by omega), rd_at l (j + 1) (by omega), rd_at l j (by omega)]
        simp only [Option.bind_some]
        rw [if_pos (by simp only [List.length_cons, List.length_nil]; omega)]
    · by_cases c2 : l[j]'(by omega) > b + 1
      · have hg2 : Good (b + 2) (l.drop j) = true := by rw [hd]; exact good_cons.2 ⟨by omega, g2, g3, g4⟩
        rw [show addV a b (l.drop j) = a :: b :: l.drop j from by rw [hd, add_cons, if_neg c1, if_pos c2]]
        refine add_l02 l (by omega) a b h0 h1 h2 _ (d + 1) j acc (by omega) ha hg2 ?_
        have hq : (l.drop j).getD 0 0 = l[j]'(by omega) := by rw [hd]; rfl
        have := add_l1 a b (acc ++ l.drop j) (by simp; omega) acc.length (by simp) he (fun i hi => by rw [getD_app1 _ _ _ hi]; exact (hz _ (getD_mem acc i hi)).1) (fun _ => by rw [getD_app2, hq]; omega) (acc.length / 2) 0 (by omega)
        rw [List.take_left, List.drop_left] at this
        simpa using this
      · have ih' := ih (j + 2) acc (if a < l[j]'(by omega) then a else l[j]'(by omega)) (if b > l[j + 1]'(by omega) then b else l[j + 1]'(by omega)) c (by omega) (by omega) he (by split <;> omega) (by split <;> split <;> omega) (by split <;> omega) hc (good_mono _ _ _ (by omega) g4) (by
          intro z hz'
          have := hz z hz'
          refine ⟨?_, this.2⟩
          split <;> omega)
        rw [hd, add_cons, if_neg c1, if_neg c2]
        refine Ev.step (f := fun k => spec_l4Add.j1 k l a b acc (j : Int) false) (fun k => ?_) (Ev.step (f := fun k => spec_l4Add.l0 k l (if a < l[j]'(by omega) then a else l[j]'(by omega)) (if b > l[j + 1]'(by omega) then b else l[j + 1]'(by omega)) acc ((j + 2 : Nat) : Int)) (fun k => ?_) ih')
        · simp only [spec_l4Add.l0]
          rw [e1, if_pos (by omega), if_pos (by omega), if_pos (by omega), rd_at l (j + 1) (by omega), rd_at l j (by omega), wr (a - 1) (by omega) (by omega), wr (b + 1) (by omega) (by omega), if_neg c1, if_pos (by omega), show decide (l[j]'(by omega) > b + 1) = false from decide_eq_false c2]
        · simp only [spec_l4Add.j1]
          rw [e1, e2, if_neg (by simp), if_pos (by omega), if_pos (by omega), rd_at l j (by omega), least_ev]
          simp only [Option.bind_some]
          rw [if_pos (by omega), if_pos (by omega), rd_at l (j + 1) (by omega), most_ev]
          simp only [Option.bind_some]

theorem add_ev (l : List Int) (hl : l.length ≤ 2199023255552) (a b : Int) (hg : Good 0 l = true) (h0 : 0 ≤ a) (h1 : a ≤ b) (h2 : b ≤ 1114111) : Ev (fun k => spec_l4Add.f k l a b) (addV a b l) := by
  have he := good_even l 0 hg
  exact Ev.congr (fun k => by unfold spec_l4Add.f; rfl) (by simpa using add_l01 l hl (l.length / 2) 0 [] a b 0 (by omega) (by simp) rfl h0 h1 h2 (by omega) (by simpa using hg) (by simp))
/-- Sorted spans laid together. -/
def mrgV (a b : Int) : List S92 → List Int
  | x :: r => if x.f0 ≤ b + 1 then mrgV a (mx b x.f1) r else a :: b :: mrgV x.f0 x.f1 r
  | [] => [a, b]
def mrgA : List S92 → List Int
  | x :: r => mrgV x.f0 x.f1 r
  | [] => []
def anyS (n : Int) (l : List S92) : Bool := l.any fun x => inB x.f0 x.f1 n
def SpanOk (x : S92) : Prop := 0 ≤ x.f0 ∧ x.f0 ≤ x.f1 ∧ x.f1 ≤ 1114111

theorem mrg_good (l : List S92) : ∀ (c a b : Int), (∀ x ∈ l, SpanOk x) → (∀ x ∈ l, a ≤ x.f0) → l.Pairwise (fun a b => a.f0 ≤ b.f0) → c ≤ a → a ≤ b → b ≤ 1114111 → Good c (mrgV a b l) = true := by
  induction l with
  | nil => intro c a b _ _ _ h1 h2 h3; exact good_cons.2 ⟨h1, h2, h3, rfl⟩
  | cons x r ih =>
    intro c a b ho hs hp h1 h2 h3
    have ox := ho x (by simp)
    have sx := hs x (by simp)
    obtain ⟨p1, p2⟩ := List.pairwise_cons.1 hp
    unfold SpanOk at ox
    rw [mrgV]
    by_cases h : x.f0 ≤ b + 1
    · rw [if_pos h]
      exact ih c a _ (fun y hy => ho y (by simp [hy])) (fun y hy => hs y (by simp [hy])) p2 h1 (by unfold mx; split <;> omega) (by unfold mx; split <;> omega)
    · rw [if_neg h]
      exact good_cons.2 ⟨h1, h2, h3, ih _ _ _ (fun y hy => ho y (by simp [hy])) p1 p2 (by omega) (by omega) (by omega)⟩

theorem mrg_mem (l : List S92) (n : Int) : ∀ (a b : Int), (∀ x ∈ l, SpanOk x) → (∀ x ∈ l, a ≤ x.f0) → l.Pairwise (fun a b => a.f0 ≤ b.f0) → a ≤ b → memV n (mrgV a b l) = (inB a b n || anyS n l) := by
  induction l with
  | nil => intro a b _ _ _ _; rfl
  | cons x r ih =>
    intro a b ho hs hp h2
    have ox := ho x (by simp)
    have sx := hs x (by simp)
    obtain ⟨p1, p2⟩ := List.pairwise_cons.1 hp
    unfold SpanOk at ox
    rw [mrgV]
    have e : anyS n (x :: r) = (inB x.f0 x.f1 n || anyS n r) := by simp [anyS]
    by_cases h : x.f0 ≤ b + 1
    · rw [if_pos h, ih a _ (fun y hy => ho y (by simp [hy])) (fun y hy => hs y (by simp [hy])) p2 (by unfold mx; split <;> omega), e, ← Bool.or_assoc]
      congr 1
      rw [Bool.eq_iff_iff, Bool.or_eq_true, inB_iff, inB_iff, inB_iff]
      unfold mx
      split <;> omega
    · rw [if_neg h, memV, ih _ _ (fun y hy => ho y (by simp [hy])) p1 p2 (by omega), e]

theorem mrg_length (l : List S92) : ∀ a b, (mrgV a b l).length ≤ 2 * l.length + 2 := by
  induction l with
  | nil => intro a b; simp [mrgV]
  | cons x r ih =>
    intro a b
    rw [mrgV]
    split
    · have := ih a (mx b x.f1); simp only [List.length_cons]; omega
    · have := ih x.f0 x.f1; simp only [List.length_cons]; omega

theorem rdSm_at (l : List S92) (j : Nat) (h : j < l.length) : rd_T92 l (j : Int) = l[j] := by unfold rd_T92; simp [List.getD_eq_getElem?_getD, h]

theorem implMrg_l (l : List S92) (hl : l.length ≤ 1099511627776) (ho : ∀ x ∈ l, SpanOk x) : ∀ (d j : Nat) (A : List Int) (a b : Int), j + d = l.length → A.length + 2 ≤ 2 * j → 0 ≤ b → b ≤ 1114111 → Ev (fun k => impl_setOf.l0 k l (A ++ [a, b]) l (l.length : Int) (j : Int)) (A ++ mrgV a b (l.drop j), l) := by
  intro d
  induction d with
  | zero =>
    intro j A a b hj hA h0 h1
    refine Ev.step (f := fun _ => some (A ++ mrgV a b (l.drop j), l)) (fun k => ?_) (Ev.now _)
    simp only [impl_setOf.l0]
    rw [if_neg (by omega), List.drop_of_length_le (by omega)]
    rfl
  | succ d ih =>
    intro j A a b hj hA h0 h1
    have ox := ho (l[j]'(by omega)) (List.getElem_mem _)
    unfold SpanOk at ox
    have e1 : wrap64 ((j : Int) + 1) = ((j + 1 : Nat) : Int) := by rw [wr _ (by omega) (by omega)]; omega
    have el : (A ++ [a, b]).length = A.length + 2 := by simp
    have e2 : wrap64 (((A ++ [a, b]).length : Int) - 1) = ((A.length + 1 : Nat) : Int) := by rw [el, wr _ (by omega) (by omega)]; omega
    have e3 : rd (A ++ [a, b]) ((A.length + 1 : Nat) : Int) = b := by
      rw [rd_nat]
      simp [List.getD_eq_getElem?_getD, List.getElem?_append_right]
    have e4 : (A ++ [a, b]).set (A.length + 1) (mx b (l[j]'(by omega)).f1) = A ++ [a, mx b (l[j]'(by omega)).f1] := by
      rw [List.set_append_right _ _ (by omega), show A.length + 1 - A.length = 1 from by omega]
      rfl
    rw [List.drop_eq_getElem_cons (show j < l.length by omega), mrgV]
    by_cases h : (l[j]'(by omega)).f0 ≤ b + 1
    · rw [if_pos h]
      refine Ev.step (f := fun k => impl_setOf.l0 k l (A ++ [a, mx b (l[j]'(by omega)).f1]) l (l.length : Int) ((j + 1 : Nat) : Int)) (fun k => ?_) (ih (j + 1) A a (mx b (l[j]'(by omega)).f1) (by omega) (by omega) (by unfold mx; split <;> omega) (by unfold mx; split <;> omega))
      simp only [impl_setOf.l0]
      rw [if_pos (by omega), if_pos (by omega), if_pos (by omega), e2, if_pos (by omega), if_pos (by omega), if_pos (by rw [el]; omega), e3, rdSm_at l j (by omega), wr (b + 1) (by omega) (by omega), if_pos h, Int.toNat_natCast, e4, e1]
    · rw [if_neg h]
      have ih' := ih (j + 1) (A ++ [a, b]) (l[j]'(by omega)).f0 (l[j]'(by omega)).f1 (by omega) (by omega) (by omega) (by omega)
      refine Ev.step (f := fun k => impl_setOf.l0 k l (A ++ [a, b] ++ [(l[j]'(by omega)).f0, (l[j]'(by omega)).f1]) l (l.length : Int) ((j + 1 : Nat) : Int)) (fun k => ?_) (by simpa using ih')
      simp only [impl_setOf.l0]
      rw [if_pos (by omega), if_pos (by omega), if_pos (by omega), e2, if_pos (by omega), if_pos (by omega), if_pos (by rw [el]; omega), e3, rdSm_at l j (by omega), wr (b + 1) (by omega) (by omega), if_neg h, e1]
      simp only [Option.bind_some]
      rw [if_pos (by rw [el]; simp only [List.length_cons, List.length_nil]; omega)]

theorem implMrg_ev (l : List S92) (hl : l.length ≤ 1099511627776) (ho : ∀ x ∈ l, SpanOk x) : Ev (fun k => impl_setOf.l0 k l [] l (l.length : Int) 0) (mrgA l, l) := by
  match l, hl, ho with
  | [], _, _ =>
    refine Ev.step (f := fun _ => some (mrgA [], [])) (fun k => ?_) (Ev.now _)
    simp only [impl_setOf.l0]
    rw [if_neg (by simp)]
    rfl
  | x :: r, hl, ho =>
    have ox := ho x (by simp)
    unfold SpanOk at ox
    have := implMrg_l (x :: r) hl ho r.length 1 [] x.f0 x.f1 (by simp; omega) (by simp) (by omega) (by omega)
    refine Ev.step (f := fun k => impl_setOf.l0 k (x :: r) [x.f0, x.f1] (x :: r) ((x :: r).length : Int) ((1 : Nat) : Int)) (fun k => ?_) (by simpa [mrgA] using this)
    simp only [impl_setOf.l0]
    rw [if_pos (by simp only [List.length_cons]; omega), if_pos (by omega), if_pos (by simp only [List.length_cons]; omega), wr _ (by simp) (by simp), if_neg (by simp), wr _ (by omega) (by omega), show rd_T92 (x :: r) 0 = x from rfl]
    simp only [Option.bind_some]
    rw [if_pos (by simp)]
    rfl

/-- What setOf makes of spans: a set, with the spans' runes. -/
theorem implSetOf_ev (l : List S92) (hl : l.length ≤ 1099511627776) (ho : ∀ x ∈ l, SpanOk x) : ∃ s q, Ev (fun k => impl_setOf.f k l) (s, q) ∧ Good 0 s = true ∧ (∀ n, memV n s = anyS n l) ∧ s.length ≤ 2 * l.length + 2 := by
  have hb : ∀ x ∈ l, 0 ≤ x.f0 ∧ x.f0 ≤ 1099511627776 := fun x hx => by have := ho x hx; unfold SpanOk at this; omega
  obtain ⟨hp, hs⟩ := sortV_spec l hb
  have hlen := hp.length_eq
  have ho2 : ∀ x ∈ sortV l hb, SpanOk x := fun x hx => ho x (hp.mem_iff.1 hx)
  have he := implMrg_ev (sortV l hb) (by omega) ho2
  have ha : ∀ n, anyS n (sortV l hb) = anyS n l := fun n => by
    unfold anyS
    rw [Bool.eq_iff_iff, List.any_eq_true, List.any_eq_true]
    exact ⟨fun ⟨x, hx, h⟩ => ⟨x, hp.mem_iff.1 hx, h⟩, fun ⟨x, hx, h⟩ => ⟨x, hp.mem_iff.2 hx, h⟩⟩
  refine ⟨mrgA (sortV l hb), sortV l hb, ?_, ?_, ?_, ?_⟩
  · refine Ev.congr (f := fun k => impl_setOf.l0 k (sortV l hb) [] (sortV l hb) ((sortV l hb).length : Int) 0) (fun k => ?_) he
    unfold impl_setOf.f impl_span.f
    rw [dif_pos ⟨rfl, by omega, hb⟩, hlen]
    rfl
  · generalize sortV l hb = m at hs ho2
    match m with
    | [] => rfl
    | x :: r =>
      have ox := ho2 x (by simp)
      unfold SpanOk at ox
      obtain ⟨p1, p2⟩ := List.pairwise_cons.1 hs
      exact mrg_good r 0 _ _ (fun y hy => ho2 y (by simp [hy])) p1 p2 (by omega) (by omega) (by omega)
  · intro n
    rw [← ha n]
    generalize sortV l hb = m at hs ho2
    match m with
    | [] => rfl
    | x :: r =>
      have ox := ho2 x (by simp)
      unfold SpanOk at ox
      obtain ⟨p1, p2⟩ := List.pairwise_cons.1 hs
      rw [mrgA, mrg_mem r n _ _ (fun y hy => ho2 y (by simp [hy])) p1 p2 (by omega)]
      simp [anyS]
  · rw [← hlen]
    generalize sortV l hb = m
    match m with
    | [] => simp [mrgA]
    | x :: r =>
      have := mrg_length r x.f0 x.f1
      rw [mrgA]
      simp only [List.length_cons]; omega
/-- A set as it is told: itself, if it is good. -/
def made (l : List Int) : List Int × Bool := if GoodS l = true then (l, true) else ([], false)
theorem made_length (l : List Int) : (made l).1.length ≤ 24 := by
  unfold made
  cases h : GoodS l with
  | false => simp
  | true =>
    unfold GoodS at h
    rw [Bool.and_eq_true, decide_eq_true_eq] at h
    simpa using h.2

theorem spansV_mem (n : Int) (l : List Int) : anyS n (spansV l) = memV n l := by
  match l with
  | [] => rfl
  | [_] => rfl
  | a :: b :: t =>
    have ih := spansV_mem n t
    unfold anyS at ih ⊢
    simp only [spansV, memV, List.any_cons, ih]
termination_by l.length

theorem spansV_ok (l : List Int) : ∀ c, 0 ≤ c → Good c l = true → ∀ x ∈ spansV l, SpanOk x := by
  match l with
  | [] => intro c _ _ x hx; cases hx
  | [_] => intro c _ h; simp [Good] at h
  | a :: b :: t =>
    intro c hc h x hx
    obtain ⟨g1, g2, g3, g4⟩ := good_cons.1 h
    simp only [spansV, List.mem_cons] at hx
    rcases hx with rfl | hx
    · exact ⟨by show 0 ≤ a; omega, g2, g3⟩
    · exact spansV_ok t (b + 2) (by omega) g4 x hx
termination_by l.length

theorem anyS_append (n : Int) (l m : List S92) : anyS n (l ++ m) = (anyS n l || anyS n m) := by simp [anyS]

theorem goodS_good (l : List Int) (h : GoodS l = true) : Good 0 l = true := by
  unfold GoodS at h
  rw [Bool.and_eq_true] at h
  exact h.1
def hasF (l : List Int) (c : Int) : Bool := memV c l || memV (c + 32) l
def foldTo (l : List Int) : Nat → Int → List Int → List Int
  | 0, _, acc => acc
  | d + 1, c, acc => foldTo l d (c + 1) (if hasF l c = true then addV (c + 32) (c + 32) (addV c c acc) else acc)
def foldM (l : List Int) (n : Int) : Nat → Int → Bool
  | 0, _ => false
  | d + 1, c => (hasF l c && (inB c c n || inB (c + 32) (c + 32) n)) || foldM l n d (c + 1)
def foldSp (l : List Int) : Nat → Int → List S92
  | 0, _ => []
  | d + 1, c => (if hasF l c = true then [(⟨c, c⟩ : S92), ⟨c + 32, c + 32⟩] else []) ++ foldSp l d (c + 1)

theorem foldTo_ok (l : List Int) : ∀ (d : Nat) (c : Int) (acc : List Int), 0 ≤ c → c + d ≤ 1000 → Good 0 acc = true → Good 0 (foldTo l d c acc) = true ∧ (∀ n, memV n (foldTo l d c acc) = (memV n acc || foldM l n d c)) ∧ (foldTo l d c acc).length ≤ acc.length + 4 * d := by
  intro d
  induction d with
  | zero => intro c acc _ _ h; exact ⟨h, fun n => by simp [foldTo, foldM], by simp [foldTo]⟩
  | succ d ih =>
    intro c acc h0 h1 h
    have g1 := add_good acc 0 c c h h0 (by omega) (by omega)
    have g2 := add_good _ 0 (c + 32) (c + 32) g1 (by omega) (by omega) (by omega)
    have n1 := add_length acc c c
    have n2 := add_length (addV c c acc) (c + 32) (c + 32)
    rw [foldTo]
    cases hf : hasF l c with
    | false =>
      rw [if_neg (by simp)]
      obtain ⟨i1, i2, i3⟩ := ih (c + 1) acc (by omega) (by omega) h
      exact ⟨i1, fun n => by rw [i2, foldM, hf]; simp, by omega⟩
    | true =>
      rw [if_pos rfl]
      obtain ⟨i1, i2, i3⟩ := ih (c + 1) (addV (c + 32) (c + 32) (addV c c acc)) (by omega) (by omega) g2
      refine ⟨i1, fun n => ?_, by omega⟩
      rw [i2, foldM, hf, add_mem _ n 0 _ _ g1 (by omega), add_mem acc n 0 _ _ h (by omega), Bool.true_and]
      cases inB c c n <;> cases inB (c + 32) (c + 32) n <;> cases memV n acc <;> rfl

theorem foldSp_ok (l : List Int) : ∀ (d : Nat) (c : Int), 0 ≤ c → c + d ≤ 1000 → (∀ x ∈ foldSp l d c, SpanOk x) ∧ (∀ n, anyS n (foldSp l d c) = foldM l n d c) ∧ (foldSp l d c).length ≤ 2 * d := by
  intro d
  induction d with
  | zero => intro c _ _; exact ⟨fun x hx => (by cases hx), fun n => rfl, by simp [foldSp]⟩
  | succ d ih =>
    intro c h0 h1
    obtain ⟨i1, i2, i3⟩ := ih (c + 1) (by omega) (by omega)
    rw [foldSp]
    cases hf : hasF l c with
    | false =>
      rw [if_neg (by simp), List.nil_append]
      exact ⟨i1, fun n => by rw [i2, foldM, hf]; simp, by omega⟩
    | true =>
      rw [if_pos rfl]
      refine ⟨fun x hx => ?_, fun n => ?_, by rw [List.length_append]; simp only [List.length_cons, List.length_nil]; omega⟩
      · rcases List.mem_append.1 hx with hx | hx
        · simp only [List.mem_cons, List.not_mem_nil, or_false] at hx
          rcases hx with rfl | rfl
          · exact ⟨h0, Int.le_refl _, by show c ≤ 1114111; omega⟩
          · exact ⟨by show 0 ≤ c + 32; omega, Int.le_refl _, by show c + 32 ≤ 1114111; omega⟩
        · exact i1 x hx
      · rw [anyS_append, i2, foldM, hf, Bool.true_and]
        congr 1
        simp [anyS]

theorem specFold_l (l : List Int) (hl : l.length ≤ 1000) (he : l.length % 2 = 0) : ∀ (d : Nat) (c : Int) (acc : List Int), c + d = 91 → 65 ≤ c → acc.length ≤ 1000000 - 4 * d → Good 0 acc = true → Ev (fun k => spec_l4FoldSet.l0 k l acc c) (foldTo l d c acc) := by
  intro d
  induction d with
  | zero =>
    intro c acc hc h0 ha hg
    refine Ev.step (f := fun _ => some acc) (fun k => ?_) (Ev.now _)
    simp only [spec_l4FoldSet.l0]
    rw [if_neg (by omega)]
  | succ d ih =>
    intro c acc hc h0 ha hg
    have g1 := add_good acc 0 c c hg (by omega) (by omega) (by omega)
    have g2 := add_good _ 0 (c + 32) (c + 32) g1 (by omega) (by omega) (by omega)
    have n1 := add_length acc c c
    have n2 := add_length (addV c c acc) (c + 32) (c + 32)
    have w1 : wrap64 (c + 32) = c + 32 := wr _ (by omega) (by omega)
    have w2 : wrap64 (c + 1) = c + 1 := wr _ (by omega) (by omega)
    have jt : Ev (fun k => spec_l4FoldSet.j1 k l acc c true) (foldTo l d (c + 1) (addV (c + 32) (c + 32) (addV c c acc))) := by
      refine Ev.step (fun k => by simp only [spec_l4FoldSet.j1]; rw [if_pos trivial, w1, w2]) ?_
      exact Ev.bind (add_ev acc (by omega) c c hg (by omega) (by omega) (by omega)) (Ev.bind (add_ev _ (by omega) (c + 32) (c + 32) g1 (by omega) (by omega) (by omega)) (ih (c + 1) (addV (c + 32) (c + 32) (addV c c acc)) (by omega) (by omega) (by omega) g2))
    have jf : Ev (fun k => spec_l4FoldSet.j1 k l acc c false) (foldTo l d (c + 1) acc) := by
      refine Ev.step (fun k => by simp only [spec_l4FoldSet.j1]; rw [if_neg (by simp), w2]) ?_
      exact ih (c + 1) acc (by omega) (by omega) (by omega) hg
    rw [foldTo]
    refine Ev.step (fun k => by simp only [spec_l4FoldSet.l0]; rw [if_pos (by omega), w1]) ?_
    refine Ev.bind (specIn_ev l c (by omega) he) ?_
    unfold hasF
    cases memV c l with
    | true =>
      rw [Bool.true_or, if_pos rfl]
      exact Ev.congr (fun k => by rw [if_pos rfl]) jt
    | false =>
      refine Ev.congr (fun k => by rw [if_neg (by simp)]) (Ev.bind (specIn_ev l (c + 32) (by omega) he) ?_)
      rw [Bool.false_or]
      cases memV (c + 32) l with
      | true => rw [if_pos rfl]; exact jt
      | false => rw [if_neg (by simp)]; exact jf

theorem specFold_ev (l : List Int) (hl : l.length ≤ 1000) (hg : Good 0 l = true) : Ev (fun k => spec_l4FoldSet.f k l) (foldTo l 26 65 l) := by
  unfold spec_l4FoldSet.f
  rw [own_ev l (by omega)]
  exact Ev.bind (Ev.now _) (specFold_l l hl (good_even l 0 hg) 26 65 l (by omega) (by omega) (by omega) hg)

theorem implFold_l (l : List Int) (hl : l.length ≤ 1000) (r : List Int) : ∀ (d : Nat) (c : Int) (acc : List S92), c + d = 91 → 65 ≤ c → acc.length ≤ 1000000 - 2 * d → Ev (fun k => (impl_setOf.f k (acc ++ foldSp l d c)).bind fun bt240 => (some bt240.1)) r → Ev (fun k => impl_foldSet.l0 k l acc c) r := by
  intro d
  induction d with
  | zero =>
    intro c acc hc h0 ha hr
    rw [foldSp, List.append_nil] at hr
    refine Ev.step (fun k => ?_) hr
    simp only [impl_foldSet.l0]
    rw [if_neg (by omega)]
  | succ d ih =>
    intro c acc hc h0 ha hr
    have w0 : wrap64 c = c := wr _ (by omega) (by omega)
    have w1 : wrap64 (c + 97) = c + 97 := wr _ (by omega) (by omega)
    have w2 : wrap64 (c + 97 - 65) = c + 32 := by rw [wr _ (by omega) (by omega)]; omega
    have w3 : wrap32 (c + 1) = c + 1 := by unfold wrap32; omega
    rw [foldSp, ← List.append_assoc] at hr
    have st : ∀ g : Nat → Option (List Int), (∀ k, g k = (some ([(⟨c, c⟩ : S92), (⟨c + 32, c + 32⟩ : S92)] : List S92)).bind fun y => if acc.length + y.length < 8796093022208 then impl_foldSet.l0 k l (acc ++ y) (c + 1) else none) → Ev (fun k => (impl_setOf.f k (acc ++ [(⟨c, c⟩ : S92), ⟨c + 32, c + 32⟩] ++ foldSp l d (c + 1))).bind fun bt240 => (some bt240.1)) r → Ev g r := by
      intro g hg h
      refine Ev.congr (fun k => ?_) (ih (c + 1) (acc ++ [(⟨c, c⟩ : S92), ⟨c + 32, c + 32⟩]) (by omega) (by omega) (by rw [List.length_append]; simp only [List.length_cons, List.length_nil]; omega) h)
      rw [hg]
      simp only [Option.bind_some]
      rw [if_pos (by simp only [List.length_cons, List.length_nil]; omega)]
    refine Ev.step (fun k => by simp only [impl_foldSet.l0]; rw [if_pos (by omega), w0, w1, w2, w3]) ?_
    refine Ev.bind (implIn_ev l c (by omega)) ?_
    unfold hasF at hr
    cases hm : memV c l with
    | true =>
      rw [hm, Bool.true_or, if_pos rfl] at hr
      refine st _ (fun k => ?_) hr
      rw [if_pos rfl]
    | false =>
      refine Ev.congr (fun k => by rw [if_neg (by simp)]) (Ev.bind (implIn_ev l (c + 32) (by omega)) ?_)
      rw [hm, Bool.false_or] at hr
      cases hm2 : memV (c + 32) l with
      | true =>
        rw [hm2, if_pos rfl] at hr
        refine st _ (fun k => ?_) hr
        rw [if_pos rfl]
      | false =>
        rw [hm2, if_neg (by simp), List.append_nil] at hr
        refine Ev.congr (fun k => by rw [if_neg (by simp)]) (ih (c + 1) acc (by omega) (by omega) (by omega) hr)

theorem implFold_ev (l : List Int) (hl : l.length ≤ 1000) (hg : Good 0 l = true) : Ev (fun k => impl_foldSet.f k l) (foldTo l 26 65 l) := by
  obtain ⟨g1, g2, g3⟩ := foldTo_ok l 26 65 l (by omega) (by omega) hg
  obtain ⟨s1, s2, s3⟩ := foldSp_ok l 26 65 (by omega) (by omega)
  have n1 := spansV_length l
  obtain ⟨s, q, e1, e2, e3, e4⟩ := implSetOf_ev (spansV l ++ foldSp l 26 65) (by rw [List.length_append]; omega) (by
    intro x hx
    rcases List.mem_append.1 hx with hx | hx
    · exact spansV_ok l 0 (by omega) hg x hx
    · exact s1 x hx)
  have es : s = foldTo l 26 65 l := good_ext s _ 0 0 e2 g1 fun n => by rw [e3, g2, anyS_append, spansV_mem, s2]
  subst es
  unfold impl_foldSet.f
  refine Ev.bind (spansOf_ev l (by omega)) (implFold_l l hl _ 26 65 (spansV l) (by omega) (by omega) (by omega) ?_)
  exact Ev.bind e1 (Ev.now _)

/-- A node whose set is folded. -/
def fo (n : S49) : S49 := ⟨n.f0, foldTo n.f1 26 65 n.f1⟩
theorem foldTo_nil : foldTo [] 26 65 [] = [] := by first | rfl | decide | simp [foldTo, hasF, memV]
theorem setOk_good {n : S49} (h : setOk n = true) : GoodS n.f1 = true := by
  simp only [setOk, Bool.and_eq_true] at h
  first | exact h.2.1 | exact h.1.2 | exact h.1
theorem fo_ne {n : S49} (h : setOk n = true) (h2 : n.f0 ≠ 2) : fo n = n := by
  obtain ⟨a, b⟩ := n
  have := set_none h h2
  simp only at this
  subst this
  unfold fo
  simp only [foldTo_nil]
theorem fo_len {n : S49} (h : setOk n = true) : (fo n).f1.length ≤ 1048576 := by
  have hg := setOk_good h
  obtain ⟨h1, _, _⟩ := goodS_facts n.f1 hg
  obtain ⟨_, _, g3⟩ := foldTo_ok n.f1 26 65 n.f1 (by omega) (by omega) (goodS_good n.f1 hg)
  show (foldTo n.f1 26 65 n.f1).length ≤ 1048576
  omega
theorem set_mid (A B : List S49) (n v : S49) (i : Nat) (hi : i = A.length) : (A ++ n :: B).set i v = A ++ v :: B := by
  subst hi
  simp
theorem specFoldL : ∀ (post pre : List S49), (pre ++ post).length ≤ 1000 → (∀ x ∈ post, setOk x = true) → Ev (fun k => spec_FoldRe.l0 k (pre.map fo ++ post) (pre.length : Int)) ((pre ++ post).map fo)
  | [], pre, hl, hs => by
    refine Ev.step (f := fun _ => some ((pre ++ []).map fo)) (fun k => ?_) (Ev.now _)
    rw [spec_FoldRe.l0, if_neg (by simp), List.append_nil, List.append_nil]
  | n :: post, pre, hl, hs => by
    have hn := hs n List.mem_cons_self
    have hg := setOk_good hn
    obtain ⟨h1, _, _⟩ := goodS_facts n.f1 hg
    have hll := hl
    simp only [List.length_append, List.length_cons] at hll
    have ih := specFoldL post (pre ++ [n]) (by simpa using hl) (fun x hx => hs x (List.mem_cons_of_mem _ hx))
    have er : rd_T49 (pre.map fo ++ (n :: post)) (pre.length : Int) = n := rd_root (pre.map fo) post n _ _ rfl (by simp)
    have ew : wrap64 ((pre.length : Int) + 1) = ((pre ++ [n]).length : Int) := by rw [wr _ (by omega) (by omega)]; simp
    have e1 : (pre ++ [n]).map fo ++ post = pre.map fo ++ fo n :: post := by simp
    have e2 : (pre ++ [n] ++ post).map fo = (pre ++ n :: post).map fo := by simp
    rw [e1, e2] at ih
    have c1 : (pre.length : Int) < ((pre.map fo ++ (n :: post)).length : Int) := by simp; omega
    by_cases h2 : n.f0 = 2
    · refine Ev.step (fun k => by rw [spec_FoldRe.l0, if_pos c1, if_pos (by omega), er, if_pos h2, ew]) (Ev.bind (specFold_ev n.f1 (by omega) (goodS_good n.f1 hg)) ?_)
      refine Ev.congr (fun k => ?_) ih
      rw [set_mid _ _ _ _ _ (by simp)]
      rfl
    · refine Ev.step (fun k => by rw [spec_FoldRe.l0, if_pos c1, if_pos (by omega), er, if_neg h2, ew]) ?_
      rw [fo_ne hn h2] at ih
      exact ih
theorem implFoldL : ∀ (post pre : List S49), (pre ++ post).length ≤ 1000 → (∀ x ∈ post, setOk x = true) → Ev (fun k => impl_FoldRe.l0 k (pre.map fo ++ post) (pre.length : Int)) ((pre ++ post).map fo)
  | [], pre, hl, hs => by
    refine Ev.step (f := fun _ => some ((pre ++ []).map fo)) (fun k => ?_) (Ev.now _)
    rw [impl_FoldRe.l0, if_neg (by simp), List.append_nil, List.append_nil]
  | n :: post, pre, hl, hs => by
    have hn := hs n List.mem_cons_self
    have hg := setOk_good hn
    obtain ⟨h1, _, _⟩ := goodS_facts n.f1 hg
    have hll := hl
    simp only [List.length_append, List.length_cons] at hll
    have ih := implFoldL post (pre ++ [n]) (by simpa using hl) (fun x hx => hs x (List.mem_cons_of_mem _ hx))
    have er : rd_T49 (pre.map fo ++ (n :: post)) (pre.length : Int) = n := rd_root (pre.map fo) post n _ _ rfl (by simp)
    have ew : wrap64 ((pre.length : Int) + 1) = ((pre ++ [n]).length : Int) := by rw [wr _ (by omega) (by omega)]; simp
    have e1 : (pre ++ [n]).map fo ++ post = pre.map fo ++ fo n :: post := by simp
    have e2 : (pre ++ [n] ++ post).map fo = (pre ++ n :: post).map fo := by simp
    rw [e1, e2] at ih
    have c1 : (pre.length : Int) < ((pre.map fo ++ (n :: post)).length : Int) := by simp; omega
    refine Ev.step (fun k => by rw [impl_FoldRe.l0, if_pos c1, if_pos (by omega), er, ew]) (Ev.bind (implFold_ev n.f1 (by omega) (goodS_good n.f1 hg)) ?_)
    refine Ev.congr (fun k => ?_) ih
    rw [set_mid _ _ _ _ _ (by simp)]
    rfl
theorem foldRe_both (l : List S49) (hl : l.length ≤ 1048576) (hr : ∀ x ∈ l, x.f1.length ≤ 1048576) : ∃ R : List S49 × Bool, (R.1.length ≤ 1000 ∧ ∀ x ∈ R.1, x.f1.length ≤ 1048576) ∧ Ev (fun k => spec_FoldRe.f k l) R ∧ Ev (fun k => impl_FoldRe.f k l) R := by
  have hs := specGoodRe_ev l hl hr
  have hi := implGoodRe_ev l hl hr
  cases hg : GoodRV l with
  | false =>
    rw [hg] at hs hi
    refine ⟨([], false), ⟨by simp, by simp⟩, ?_, ?_⟩
    · unfold spec_FoldRe.f
      exact Ev.bind hs (Ev.congr (fun k => by rw [if_neg (by simp)]) (Ev.now _))
    · unfold impl_FoldRe.f
      exact Ev.bind hi (Ev.congr (fun k => by rw [if_neg (by simp)]) (Ev.now _))
  | true =>
    rw [hg] at hs hi
    obtain ⟨t, ho, hst, e, h40⟩ := good_tree hg
    have hset : ∀ x ∈ l, setOk x = true := by subst e; exact hst
    have hm : ∀ x ∈ l.map fo, x.f1.length ≤ 1048576 := by
      intro x hx
      obtain ⟨y, hy, rfl⟩ := List.mem_map.1 hx
      exact fo_len (hset y hy)
    have hml : (l.map fo).length ≤ 40 := by rw [List.length_map]; exact h40
    have hs2 := specGoodRe_ev (l.map fo) (by omega) hm
    have hp := goodPat_ev (l.map fo) (by omega) hm
    have hsl := specFoldL l [] (by simpa using (by omega : l.length ≤ 1000)) hset
    have hil := implFoldL l [] (by simpa using (by omega : l.length ≤ 1000)) hset
    simp only [List.map_nil, List.nil_append, List.length_nil] at hsl hil
    refine ⟨if GoodRV (l.map fo) = true then (l.map fo, true) else ([], false), ?_, ?_, ?_⟩
    · split
      · exact ⟨by simp only; omega, hm⟩
      · exact ⟨by simp, by simp⟩
    · unfold spec_FoldRe.f
      refine Ev.bind hs (Ev.congr (fun k => by rw [if_pos rfl]) (Ev.bind (specOwn_ev l (by omega) hr) (Ev.bind hsl (Ev.bind hs2 ?_))))
      cases GoodRV (l.map fo) with
      | false => exact Ev.congr (fun k => by rw [if_neg (by simp)]) (by simpa using Ev.now (([] : List S49), false))
      | true => exact Ev.congr (fun k => by rw [if_pos rfl]) (by simpa using Ev.now (l.map fo, true))
    · unfold impl_FoldRe.f
      exact Ev.bind hi (Ev.congr (fun k => by rw [if_pos rfl]) (Ev.bind (clonePat_ev l (by omega) hr) (Ev.bind hil hp)))
theorem FnExactFoldRe (l : List S48) (hl : l.length ≤ 9223372036854775807) (hr : ∀ x ∈ l, x.f1.length ≤ 9223372036854775807) : ∃ k, laws_FnExactFoldRe.f k l = some true := by
  refine Ev.rounds (r := true) ?_
  unfold laws_FnExactFoldRe.f
  obtain ⟨v, e1, e2⟩ := szReS_ev l hl hr
  refine Ev.bind e1 ?_
  by_cases h : v < 0
  · exact Ev.congr (fun k => by rw [if_pos h]) (Ev.now true)
  · have hs := e2.resolve_left h
    obtain ⟨m1, m2⟩ := small_map l hs
    obtain ⟨R, ⟨r1, r2⟩, cs, ci⟩ := foldRe_both (l.map toI) m1 m2
    have tx := totRe_le 1048576 (l.map toI) (fun x hx => by have := m2 x hx; omega)
    have tr := totRe_le 1048576 R.1 (fun x hx => by have := r2 x hx; omega)
    have px := totRe_pos (l.map toI)
    have pr := totRe_pos R.1
    refine Ev.congr (fun k => by rw [if_neg h]) (Ev.bind (toReS_ev l hs) (Ev.bind cs (Ev.bind ci ?_)))
    refine Ev.bind (eqReS_ev R.1 (by omega) r2) (Ev.bind (eqReS_ev (l.map toI) m1 m2) (Ev.bind (markRe_ev (l.map toI) (by omega) (by omega)) (Ev.bind (markRe_ev R.1 (by omega) (by omega)) (Ev.bind (heldRe_ev R.1 (by omega) (by omega)) ?_))))
    exact Ev.congr (fun k => by rw [if_pos rfl, if_pos rfl, if_pos rfl, if_neg (by simp only; omega), if_neg (by omega), if_pos rfl]) (Ev.now true)

end Go.Proofs.Ytlmpeaelpchokaa.Pure
