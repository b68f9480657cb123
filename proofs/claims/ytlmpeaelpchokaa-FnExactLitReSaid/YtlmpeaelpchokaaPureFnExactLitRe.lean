/-
  For every input the law FnExactLitRe returns true; no condition.
-/
import Derived.Test.YtlmpeaelpchokaaHFnExactLitRex13
namespace Go.Proofs.Ytlmpeaelpchokaa.Pure
open Go.RowKit Go.Proofs.Ytlmpeaelpchokaa.HFnExactLitRe Go.Proofs.YtlmpeaelpchokaaW.PrintWords Go.Proofs.YtlmpeaelpchokaaW.PrintLast
set_option linter.unusedSimpArgs false
set_option linter.unusedVariables false
theorem wr (i : Int) (h0 : -9223372036854775808 ≤ i) (h1 : i ≤ 9223372036854775807) : wrap64 i = i := by unfold wrap64; omega

theorem rd_nat (l : List Int) (j : Nat) : rd l (j : Int) = l.getD j 0 := by unfold rd; simp

theorem getD_at (l : List Int) (j : Nat) (h : j < l.length) : l.getD j 0 = l[j] := by simp [List.getD_eq_getElem?_getD, h]

theorem rd_at (l : List Int) (j : Nat) (h : j < l.length) : rd l (j : Int) = l[j] := by rw [rd_nat, getD_at l j h]

theorem drop_at (l : List Int) (j : Nat) (h : j < l.length) : l.drop j = l[j] :: l.drop (j + 1) := List.drop_eq_getElem_cons h

theorem toIntS_l (l : List Int) (hl : l.length ≤ 17592186044416) : ∀ (d j : Nat) (o : List Int), j + d = l.length → o.length = l.length → (∀ i, i < j → o.getD i 0 = l.getD i 0) → Ev (fun k => laws_toIntS.l0 k l o (j : Int)) l := by
  intro d
  induction d with
  | zero =>
    intro j o hj ho he
    refine Ev.step (f := fun _ => some l) (fun k => ?_) (Ev.now l)
    simp only [laws_toIntS.l0]
    rw [if_neg (by omega)]
    congr 1
    refine List.ext_getElem (by omega) fun i h1 h2 => ?_
    have := he i (by omega)
    rwa [getD_at o i h1, getD_at l i h2] at this
  | succ d ih =>
    intro j o hj ho he
    refine Ev.step (f := fun k => laws_toIntS.l0 k l (o.set j (l.getD j 0)) ((j + 1 : Nat) : Int)) (fun k => ?_) (ih (j + 1) _ (by omega) (by rw [List.length_set]; exact ho) fun i hi => ?_)
    · simp only [laws_toIntS.l0]
      rw [if_pos (by omega), if_pos (by omega), if_pos (by omega), wr _ (by omega) (by omega), rd_nat]
      simp
    · by_cases e : i = j
      · subst e
        rw [getD_at _ _ (by rw [List.length_set]; omega)]
        simp
      · rw [← he i (by omega)]
        simp [List.getD_eq_getElem?_getD, List.getElem?_set, Ne.symm e]

theorem toIntS_ev (l : List Int) (hl : l.length ≤ 17592186044416) : Ev (fun k => laws_toIntS.f k l) l := by
  refine Ev.congr (f := fun k => laws_toIntS.l0 k l (List.replicate l.length 0) ((0 : Nat) : Int)) (fun k => ?_) (toIntS_l l hl l.length 0 _ (by omega) (by simp) (fun i hi => by omega))
  unfold laws_toIntS.f
  rw [if_pos (by omega), if_pos (by omega)]
  simp

theorem eqIntS_l (a b : List Int) (hab : a.length = b.length) (hl : a.length ≤ 17592186044416) : ∀ (d j : Nat), j + d = a.length → a.take j = b.take j → Ev (fun k => laws_eqIntS.l0 k a b (j : Int)) (decide (a = b)) := by
  intro d
  induction d with
  | zero =>
    intro j hj ht
    refine Ev.step (f := fun _ => some (decide (a = b))) (fun k => ?_) (Ev.now _)
    simp only [laws_eqIntS.l0]
    rw [if_neg (by omega)]
    rw [List.take_of_length_le (by omega), List.take_of_length_le (by omega)] at ht
    simp [ht]
  | succ d ih =>
    intro j hj ht
    by_cases e : a[j]'(by omega) = b[j]'(by omega)
    · refine Ev.step (f := fun k => laws_eqIntS.l0 k a b ((j + 1 : Nat) : Int)) (fun k => ?_) (ih (j + 1) (by omega) ?_)
      · simp only [laws_eqIntS.l0]
        rw [if_pos (by omega), if_pos (by omega), if_pos (by omega), rd_at a j (by omega), rd_at b j (by omega), if_pos e, wr _ (by omega) (by omega)]
        simp
      · rw [List.take_succ_eq_append_getElem (by omega), List.take_succ_eq_append_getElem (by omega), ht, e]
    · refine Ev.step (f := fun _ => some (decide (a = b))) (fun k => ?_) (Ev.now _)
      simp only [laws_eqIntS.l0]
      rw [if_pos (by omega), if_pos (by omega), if_pos (by omega), rd_at a j (by omega), rd_at b j (by omega), if_neg e]
      have : ¬ a = b := fun h => e (by subst h; rfl)
      simp [this]

theorem eqIntS_ev (a b : List Int) (hl : a.length ≤ 17592186044416) : Ev (fun k => laws_eqIntS.f k a b) (decide (a = b)) := by
  by_cases h : a.length = b.length
  · refine Ev.congr (f := fun k => laws_eqIntS.l0 k a b ((0 : Nat) : Int)) (fun k => ?_) (eqIntS_l a b h hl a.length 0 (by omega) (by simp))
    unfold laws_eqIntS.f
    rw [if_pos (by omega)]
    simp
  · refine Ev.congr (f := fun _ => some (decide (a = b))) (fun k => ?_) (Ev.now _)
    unfold laws_eqIntS.f
    rw [if_neg (by omega)]
    have : ¬ a = b := fun e => h (by rw [e])
    simp [this]

/-- Within bounds. -/
def inB (lo hi n : Int) : Bool := decide (lo ≤ n ∧ n ≤ hi)
theorem inB_iff (lo hi n : Int) : inB lo hi n = true ↔ lo ≤ n ∧ n ≤ hi := by simp [inB]

theorem in_s (a b c : Int) : spec_l1In.f a b c = some (inB b c a) := by
  unfold spec_l1In.f inB
  by_cases h : a ≥ b
  · rw [if_pos h]; simp [show b ≤ a from h]
  · rw [if_neg h]; simp [show ¬ b ≤ a from h]

theorem in_i (a b c : Int) : impl_inRange.f a b c = some (inB b c a) := by
  unfold impl_inRange.f inB
  by_cases h : b ≤ a
  · rw [if_pos h]; simp [h]
  · rw [if_neg h]; simp [h]

def isR (a : Int) : Bool := inB 0 1114111 a && !inB 55296 57343 a
theorem gr_s (a : Int) : spec_GoodRune.f a = some (isR a) := by
  unfold spec_GoodRune.f isR
  rw [in_s, in_s]
  simp only [Option.bind_some]
  cases inB 0 1114111 a <;> simp

theorem gr_i (a : Int) : impl_GoodRune.f a = some (isR a) := by
  unfold impl_GoodRune.f isR
  rw [in_i, in_i]
  simp only [Option.bind_some]
  cases inB 0 1114111 a <;> simp

def iota (m : Int) (n : Nat) : List Int := (List.range n).map fun (i : Nat) => m + (i : Int)
theorem iota_length (m : Int) (n : Nat) : (iota m n).length = n := by simp [iota]
theorem iota_get (m : Int) (n i : Nat) (h : i < n) : (iota m n).getD i 0 = m + (i : Int) := by simp [iota, List.getD_eq_getElem?_getD, h]

theorem markIntS_l (m : Int) (n : Nat) (hm : 0 ≤ m) (hn : m + (n : Int) ≤ 4611686018427387904) : ∀ (d j : Nat) (o : List Int), j + d = n → o.length = n → (∀ i, i < j → o.getD i 0 = m + (i : Int)) → Ev (fun k => laws_markIntS.l0 k o (m + (j : Int)) (j : Int)) (m + (n : Int), iota m n) := by
  intro d
  induction d with
  | zero =>
    intro j o hj ho he
    refine Ev.step (f := fun _ => some (m + (n : Int), iota m n)) (fun k => ?_) (Ev.now _)
    simp only [laws_markIntS.l0]
    rw [if_neg (by omega)]
    have e : o = iota m n := by
      refine List.ext_getElem (by rw [iota_length]; exact ho) fun i h1 h2 => ?_
      have h3 := he i (by omega)
      rw [← iota_get m n i (by omega), getD_at o i h1, getD_at _ i h2] at h3
      exact h3
    rw [e, show j = n from by omega]
  | succ d ih =>
    intro j o hj ho he
    refine Ev.step (f := fun k => laws_markIntS.l0 k (o.set j (m + (j : Int))) (m + ((j + 1 : Nat) : Int)) ((j + 1 : Nat) : Int)) (fun k => ?_) (ih (j + 1) _ (by omega) (by rw [List.length_set]; exact ho) fun i hi => ?_)
    · simp only [laws_markIntS.l0]
      rw [if_pos (by omega), if_pos (by omega), wr ((j : Int) + 1) (by omega) (by omega), wr (m + (j : Int) + 1) (by omega) (by omega)]
      simp [Int.add_assoc]
    · by_cases e : i = j
      · subst e
        rw [getD_at _ _ (by rw [List.length_set]; omega)]
        simp
      · rw [← he i (by omega)]
        simp [List.getD_eq_getElem?_getD, List.getElem?_set, Ne.symm e]

theorem markIntS_ev (l : List Int) (m : Int) (hm : 0 ≤ m) (hn : m + (l.length : Int) ≤ 4611686018427387904) : Ev (fun k => laws_markIntS.f k l m) (m + (l.length : Int), iota m l.length) :=
  Ev.congr (fun k => by unfold laws_markIntS.f; simp) (markIntS_l m l.length hm hn l.length 0 l (by omega) rfl (fun i hi => by omega))

theorem heldIntS_l (m : Int) (n : Nat) (hm : 0 ≤ m) (hn : m + (n : Int) ≤ 4611686018427387904) : ∀ (d j : Nat), j + d = n → Ev (fun k => laws_heldIntS.l0 k (iota m n) (m + (j : Int)) (j : Int)) (m + (n : Int)) := by
  intro d
  induction d with
  | zero =>
    intro j hj
    refine Ev.step (f := fun _ => some (m + (n : Int))) (fun k => ?_) (Ev.now _)
    simp only [laws_heldIntS.l0]
    rw [if_neg (by rw [iota_length]; omega), show j = n from by omega]
  | succ d ih =>
    intro j hj
    refine Ev.step (f := fun k => laws_heldIntS.l0 k (iota m n) (m + ((j + 1 : Nat) : Int)) ((j + 1 : Nat) : Int)) (fun k => ?_) (ih (j + 1) (by omega))
    simp only [laws_heldIntS.l0]
    rw [if_pos (by rw [iota_length]; omega), if_pos (by omega), rd_nat, iota_get m n j (by omega), if_pos rfl, wr ((j : Int) + 1) (by omega) (by omega), wr (m + (j : Int) + 1) (by omega) (by omega)]
    simp [Int.add_assoc]

theorem heldIntS_ev (m : Int) (n : Nat) (hm : 0 ≤ m) (hn : m + (n : Int) ≤ 4611686018427387904) : Ev (fun k => laws_heldIntS.f k (iota m n) m) (m + (n : Int)) :=
  Ev.congr (fun k => by unfold laws_heldIntS.f; simp) (heldIntS_l m n hm hn n 0 (by omega))

theorem specAllRunes_l (l : List Int) (hl : l.length ≤ 17592186044416) : ∀ (d j : Nat), j + d = l.length → Ev (fun k => spec_l1AllRunes.l0 k l l (l.length : Int) (j : Int)) ((l.drop j).all isR && decide (l.length ≤ 1000)) := by
  intro d
  induction d with
  | zero =>
    intro j hj
    refine Ev.step (f := fun _ => some ((l.drop j).all isR && decide (l.length ≤ 1000))) (fun k => ?_) (Ev.now _)
    simp only [spec_l1AllRunes.l0]
    rw [if_neg (by omega), List.drop_of_length_le (by omega)]
    simp
    omega
  | succ d ih =>
    intro j hj
    rw [drop_at l j (by omega), List.all_cons]
    cases e : isR (l[j]'(by omega)) with
    | true =>
      refine Ev.step (f := fun k => spec_l1AllRunes.l0 k l l (l.length : Int) ((j + 1 : Nat) : Int)) (fun k => ?_) (by simpa using ih (j + 1) (by omega))
      simp only [spec_l1AllRunes.l0]
      rw [if_pos (by omega), if_pos (by omega), if_pos (by omega), rd_at l j (by omega), gr_s, wr _ (by omega) (by omega), e]
      simp
    | false =>
      refine Ev.step (f := fun _ => some false) (fun k => ?_) (by simpa using Ev.now false)
      simp only [spec_l1AllRunes.l0]
      rw [if_pos (by omega), if_pos (by omega), if_pos (by omega), rd_at l j (by omega), gr_s, e]
      simp

theorem specAllRunes_ev (l : List Int) (hl : l.length ≤ 17592186044416) : Ev (fun k => spec_l1AllRunes.f k l) (l.all isR && decide (l.length ≤ 1000)) :=
  Ev.congr (fun k => by unfold spec_l1AllRunes.f; rfl) (by simpa using specAllRunes_l l hl l.length 0 (by omega))

theorem goodRuneV_isR (r : Int) : goodRuneV r = isR r := by
  unfold goodRuneV isR inB
  rfl

theorem areRunesV_eq (l : List Int) (m : Int) : areRunesV l m = (l.all isR && decide ((l.length : Int) ≤ m)) := by
  unfold areRunesV
  have e : (!l.any badRuneV) = l.all isR := by
    rw [List.not_any_eq_all_not]
    congr 1
    funext x
    unfold badRuneV
    rw [Bool.not_not, goodRuneV_isR]
  rw [e]
  by_cases h : (l.length : Int) ≤ m
  · simp [h]
  · simp [h]

theorem l1All_l (lo hi : Int) (l : List Int) (hl : l.length ≤ 17592186044416) : ∀ (d j : Nat), j + d = l.length → Ev (fun k => spec_l1All.l0 k lo hi l (l.length : Int) (j : Int)) ((l.drop j).all (inB lo hi)) := by
  intro d
  induction d with
  | zero =>
    intro j hj
    refine Ev.step (f := fun _ => some ((l.drop j).all (inB lo hi))) (fun k => ?_) (Ev.now _)
    simp only [spec_l1All.l0]
    rw [if_neg (by omega), List.drop_of_length_le (by omega)]
    rfl
  | succ d ih =>
    intro j hj
    cases e : inB lo hi (l[j]'(by omega)) with
    | true =>
      refine Ev.step (f := fun k => spec_l1All.l0 k lo hi l (l.length : Int) ((j + 1 : Nat) : Int)) (fun k => ?_) ?_
      · simp only [spec_l1All.l0]
        rw [if_pos (by omega), if_pos (by omega), if_pos (by omega), rd_at l j (by omega), in_s, wr _ (by omega) (by omega), e]
        simp
      · rw [drop_at l j (by omega), List.all_cons, e, Bool.true_and]
        exact ih (j + 1) (by omega)
    | false =>
      refine Ev.step (f := fun _ => some ((l.drop j).all (inB lo hi))) (fun k => ?_) (Ev.now _)
      simp only [spec_l1All.l0]
      rw [if_pos (by omega), if_pos (by omega), if_pos (by omega), rd_at l j (by omega), in_s, e, drop_at l j (by omega), List.all_cons, e]
      simp

theorem l1All_ev (l : List Int) (hl : l.length ≤ 17592186044416) (lo hi : Int) : Ev (fun k => spec_l1All.f k l lo hi) (l.all (inB lo hi)) :=
  Ev.congr (fun k => by unfold spec_l1All.f; rfl) (l1All_l lo hi l hl l.length 0 (by omega))

/-- A set: pairs, each rising, each two ahead of the last one. -/
def Good : Int → List Int → Bool
  | least, a :: b :: r => decide (least ≤ a) && decide (a ≤ b) && decide (b ≤ 1114111) && Good (b + 2) r
  | _, [] => true
  | _, [_] => false

theorem good_mono (l : List Int) : ∀ (a b : Int), a ≤ b → Good b l = true → Good a l = true := by
  intro a b h hg
  match l with
  | [] => rfl
  | [_] => simp [Good] at hg
  | x :: y :: r =>
    simp only [Good, Bool.and_eq_true, decide_eq_true_eq] at hg ⊢
    exact ⟨⟨⟨by omega, hg.1.1.2⟩, hg.1.2⟩, hg.2⟩

/-- A set, with at most twelve spans. -/
def GoodS (l : List Int) : Bool := Good 0 l && decide (l.length ≤ 24)

theorem good_even (l : List Int) : ∀ a, Good a l = true → l.length % 2 = 0 := by
  match l with
  | [] => intro a _; rfl
  | [_] => intro a h; simp [Good] at h
  | x :: y :: r =>
    intro a h
    simp only [Good, Bool.and_eq_true] at h
    have := good_even r _ h.2
    simp only [List.length_cons]
    omega
termination_by l.length

theorem good_all (l : List Int) : ∀ a, 0 ≤ a → Good a l = true → ∀ x ∈ l, 0 ≤ x ∧ x ≤ 1114111 := by
  match l with
  | [] => intro a _ _ x hx; cases hx
  | [_] => intro a _ h; simp [Good] at h
  | y :: z :: r =>
    intro a ha h x hx
    simp [Good] at h
    simp only [List.mem_cons] at hx
    rcases hx with rfl | rfl | hx
    · omega
    · omega
    · exact good_all r (z + 2) (by omega) h.2 x hx
termination_by l.length

def lst (l : List Int) (j : Nat) : Int := if j = 0 then 0 else l.getD (j - 1) 0 + 2

theorem specSet_l (l : List Int) (hl : l.length ≤ 17592186044416) (hr : ∀ x ∈ l, 0 ≤ x ∧ x ≤ 1114111) : ∀ (d j : Nat), j + 2 * d = l.length → Ev (fun k => spec_GoodSet.l0 k l (j : Int)) (Good (lst l j) (l.drop j)) := by
  intro d
  induction d with
  | zero =>
    intro j hj
    refine Ev.step (f := fun _ => some (Good (lst l j) (l.drop j))) (fun k => ?_) (Ev.now _)
    simp only [spec_GoodSet.l0]
    rw [if_neg (by omega), List.drop_of_length_le (by omega)]
    rfl
  | succ d ih =>
    intro j hj
    have ha : 0 ≤ l[j]'(by omega) ∧ l[j]'(by omega) ≤ 1114111 := hr _ (List.getElem_mem _)
    have hb : 0 ≤ l[j + 1]'(by omega) ∧ l[j + 1]'(by omega) ≤ 1114111 := hr _ (List.getElem_mem _)
    have e1 : wrap64 ((j : Int) + 1) = ((j + 1 : Nat) : Int) := by rw [wr _ (by omega) (by omega)]; omega
    have e2 : wrap64 ((j : Int) + 2) = ((j + 2 : Nat) : Int) := by rw [wr _ (by omega) (by omega)]; omega
    have hd : l.drop j = l[j]'(by omega) :: l[j + 1]'(by omega) :: l.drop (j + 2) := by rw [drop_at l j (by omega), drop_at l (j + 1) (by omega)]
    have hn : lst l (j + 2) = l[j + 1]'(by omega) + 2 := by
      unfold lst
      rw [if_neg (by omega), show j + 2 - 1 = j + 1 from by omega, getD_at l (j + 1) (by omega)]
    have ih' := ih (j + 2) (by omega)
    rw [hn] at ih'
    have hg : Good (lst l j) (l.drop j) = (decide (lst l j ≤ l[j]'(by omega)) && decide (l[j]'(by omega) ≤ l[j + 1]'(by omega)) && decide (l[j + 1]'(by omega) ≤ 1114111) && Good (l[j + 1]'(by omega) + 2) (l.drop (j + 2))) := by
      rw [hd, Good]
    rw [hg]
    by_cases h1 : l[j]'(by omega) > l[j + 1]'(by omega)
    · refine Ev.step (f := fun _ => some false) (fun k => ?_) ?_
      · simp only [spec_GoodSet.l0]
        rw [e1, if_pos (by omega), if_pos (by omega), if_pos (by omega), if_pos (by omega), rd_at l j (by omega), rd_at l (j + 1) (by omega), if_pos h1]
      · rw [show decide (l[j]'(by omega) ≤ l[j + 1]'(by omega)) = false from decide_eq_false (by omega)]
        simpa using Ev.now false
    · rw [show decide (l[j]'(by omega) ≤ l[j + 1]'(by omega)) = true from decide_eq_true (by omega), show decide (l[j + 1]'(by omega) ≤ 1114111) = true from decide_eq_true (by omega)]
      by_cases h0 : j = 0
      · subst h0
        rw [show decide (lst l 0 ≤ l[0]'(by omega)) = true from decide_eq_true (by unfold lst; simp; omega)]
        refine Ev.step (f := fun k => spec_GoodSet.l0 k l ((0 + 2 : Nat) : Int)) (fun k => ?_) (by simpa using ih')
        simp only [spec_GoodSet.l0]
        rw [e1, if_pos (by omega), if_pos (by omega), if_pos (by omega), if_pos (by omega), rd_at l 0 (by omega), rd_at l (0 + 1) (by omega), if_neg h1, if_neg (by omega), e2]
      · have e3 : wrap64 ((j : Int) - 1) = ((j - 1 : Nat) : Int) := by rw [wr _ (by omega) (by omega)]; omega
        have hp : 0 ≤ l[j - 1]'(by omega) ∧ l[j - 1]'(by omega) ≤ 1114111 := hr _ (List.getElem_mem _)
        have hs : lst l j = l[j - 1]'(by omega) + 2 := by unfold lst; rw [if_neg h0, getD_at l (j - 1) (by omega)]
        rw [hs]
        by_cases h2 : l[j]'(by omega) < l[j - 1]'(by omega) + 2
        · refine Ev.step (f := fun _ => some false) (fun k => ?_) ?_
          · simp only [spec_GoodSet.l0]
            rw [e1, if_pos (by omega), if_pos (by omega), if_pos (by omega), if_pos (by omega), rd_at l j (by omega), rd_at l (j + 1) (by omega), if_neg h1, if_pos (by omega), e3, if_pos (by omega), if_pos (by omega), rd_at l (j - 1) (by omega), wr (l[j - 1]'(by omega) + 2) (by omega) (by omega), if_pos h2]
          · rw [show decide (l[j - 1]'(by omega) + 2 ≤ l[j]'(by omega)) = false from decide_eq_false (by omega)]
            simpa using Ev.now false
        · refine Ev.step (f := fun k => spec_GoodSet.l0 k l ((j + 2 : Nat) : Int)) (fun k => ?_) ?_
          · simp only [spec_GoodSet.l0]
            rw [e1, if_pos (by omega), if_pos (by omega), if_pos (by omega), if_pos (by omega), rd_at l j (by omega), rd_at l (j + 1) (by omega), if_neg h1, if_pos (by omega), e3, if_pos (by omega), if_pos (by omega), rd_at l (j - 1) (by omega), wr (l[j - 1]'(by omega) + 2) (by omega) (by omega), if_neg h2, e2]
          · rw [show decide (l[j - 1]'(by omega) + 2 ≤ l[j]'(by omega)) = true from decide_eq_true (by omega)]
            simpa using ih'

theorem goodS_bad (l : List Int) (h : ¬ (l.length % 2 = 0 ∧ l.length ≤ 24 ∧ l.all (inB 0 1114111) = true)) : GoodS l = false := by
  cases hg : GoodS l with
  | false => rfl
  | true =>
    unfold GoodS at hg
    rw [Bool.and_eq_true, decide_eq_true_eq] at hg
    refine absurd ⟨good_even l 0 hg.1, hg.2, ?_⟩ h
    rw [List.all_eq_true]
    intro x hx
    exact (inB_iff _ _ _).2 (good_all l 0 (by omega) hg.1 x hx)

theorem specSet_ev (l : List Int) (hl : l.length ≤ 17592186044416) : Ev (fun k => spec_GoodSet.f k l) (GoodS l) := by
  have jt : Ev (fun k => spec_GoodSet.j0 k l true) false := Ev.step (f := fun _ => some false) (fun k => by simp [spec_GoodSet.j0]) (Ev.now _)
  unfold spec_GoodSet.f
  by_cases h1 : l.length % 2 = 1
  · rw [goodS_bad l (by omega)]
    exact Ev.congr (fun k => by rw [if_pos (by omega)]) jt
  · by_cases h2 : l.length ≤ 24
    · refine Ev.congr (f := fun k => (spec_l1All.f k l 0 1114111).bind fun t => spec_GoodSet.j0 k l (!t)) (fun k => by rw [if_neg (by omega), if_neg (by omega)]) ?_
      refine Ev.bind (l1All_ev l hl 0 1114111) ?_
      cases ha : l.all (inB 0 1114111) with
      | false =>
        rw [goodS_bad l (by rw [ha]; simp)]
        exact jt
      | true =>
        refine Ev.step (f := fun k => spec_GoodSet.l0 k l ((0 : Nat) : Int)) (fun k => by simp [spec_GoodSet.j0]) ?_
        have := specSet_l l hl (fun x hx => (inB_iff _ _ _).1 (List.all_eq_true.1 ha x hx)) (l.length / 2) 0 (by omega)
        have e : GoodS l = Good (lst l 0) (l.drop 0) := by unfold GoodS lst; simp [h2]
        rw [e]
        exact this
    · rw [goodS_bad l (by omega)]
      exact Ev.congr (fun k => by rw [if_neg (by omega), if_pos (by omega)]) jt

/-- As the program asks it: number by number. -/
def GA : Bool → Int → List Int → Bool
  | _, _, [] => true
  | p, least, n :: r => inB least 1114111 n && GA (!p) (if p = true then n else n + 2) r

theorem ga_good (l : List Int) : ∀ a, l.length % 2 = 0 → GA true a l = Good a l := by
  match l with
  | [] => intro a _; rfl
  | [_] => intro a h; simp at h
  | x :: y :: r =>
    intro a h
    have ih := ga_good r (y + 2) (by simp only [List.length_cons] at h; omega)
    simp only [GA, Good, Bool.not_true, if_true, Bool.not_false, Bool.false_eq_true, if_false, ih]
    rw [Bool.eq_iff_iff]
    simp only [Bool.and_eq_true, inB_iff, decide_eq_true_eq]
    refine ⟨fun ⟨⟨h1, h2⟩, h3, h4⟩ => ⟨⟨⟨h1, h3.1⟩, h3.2⟩, h4⟩, fun ⟨⟨⟨h1, h2⟩, h3⟩, h4⟩ => ⟨⟨h1, by omega⟩, ⟨h2, h3⟩, h4⟩⟩
termination_by l.length

def lsi (l : List Int) (j : Nat) : Int := if j = 0 then 0 else if j % 2 = 0 then l.getD (j - 1) 0 + 2 else l.getD (j - 1) 0

theorem implSet_l (l : List Int) (hl : l.length ≤ 17592186044416) : ∀ (d j : Nat), j + d = l.length → (j ≠ 0 → l.getD (j - 1) 0 ≤ 1114111) → (j ≠ 0 → 0 ≤ l.getD (j - 1) 0) →
    Ev (fun k => impl_GoodSet.l0 k l l (l.length : Int) (j : Int)) (GA (j % 2 == 0) (lsi l j) (l.drop j) && decide (l.length % 2 = 0 ∧ l.length ≤ 24)) := by
  intro d
  induction d with
  | zero =>
    intro j hj _ _
    refine Ev.step (f := fun _ => some (GA (j % 2 == 0) (lsi l j) (l.drop j) && decide (l.length % 2 = 0 ∧ l.length ≤ 24))) (fun k => ?_) (Ev.now _)
    simp only [impl_GoodSet.l0]
    rw [if_neg (by omega), List.drop_of_length_le (by omega)]
    simp only [GA, Bool.true_and]
    by_cases h : l.length % 2 = 0
    · rw [if_pos (by omega)]
      simp [h]
      omega
    · rw [if_neg (by omega)]
      simp [h]
  | succ d ih =>
    intro j hj hp0 hp1
    have e1 : wrap64 ((j : Int) + 1) = ((j + 1 : Nat) : Int) := by rw [wr _ (by omega) (by omega)]; omega
    rw [drop_at l j (by omega), GA]
    have fin : ∀ (g : Nat → Option Bool), (∀ k, g (k + 1) = (impl_inRange.f (l[j]'(by omega)) (lsi l j) 1114111).bind fun t => if t = true then impl_GoodSet.l0 k l l (l.length : Int) (wrap64 ((j : Int) + 1)) else some false) →
        Ev g ((inB (lsi l j) 1114111 (l[j]'(by omega)) && GA (!(j % 2 == 0)) (if (j % 2 == 0) = true then l[j]'(by omega) else l[j]'(by omega) + 2) (l.drop (j + 1))) && decide (l.length % 2 = 0 ∧ l.length ≤ 24)) := by
      intro g hg
      cases hi : inB (lsi l j) 1114111 (l[j]'(by omega)) with
      | false =>
        refine Ev.step (f := fun _ => some false) (fun k => ?_) (by simpa using Ev.now false)
        rw [hg, in_i, hi]
        simp
      | true =>
        have hb := (inB_iff _ _ _).1 hi
        have h0 : 0 ≤ lsi l j := by
          unfold lsi
          by_cases z : j = 0
          · rw [if_pos z]; omega
          · have := hp1 z
            rw [if_neg z]
            by_cases z2 : j % 2 = 0
            · rw [if_pos z2]; omega
            · rw [if_neg z2]; omega
        refine Ev.step (f := fun k => impl_GoodSet.l0 k l l (l.length : Int) ((j + 1 : Nat) : Int)) (fun k => ?_) ?_
        · rw [hg, in_i, hi, e1]
          simp
        · have hq : l.getD (j + 1 - 1) 0 = l[j]'(by omega) := by rw [show j + 1 - 1 = j from by omega, getD_at l j (by omega)]
          have := ih (j + 1) (by omega) (fun _ => by rw [hq]; omega) (fun _ => by rw [hq]; omega)
          have es : lsi l (j + 1) = if (j % 2 == 0) = true then l[j]'(by omega) else l[j]'(by omega) + 2 := by
            unfold lsi
            rw [if_neg (by omega), hq]
            by_cases z : j % 2 = 0
            · rw [if_neg (by omega), if_pos (by simpa using z)]
            · rw [if_pos (by omega), if_neg (by simpa using z)]
          have ep : ((j + 1) % 2 == 0) = !(j % 2 == 0) := by
            by_cases z : j % 2 = 0
            · have : ¬ (j + 1) % 2 = 0 := by omega
              simp [z, this]
            · have : (j + 1) % 2 = 0 := by omega
              simp [z, this]
          rw [es, ep] at this
          rw [Bool.true_and]
          exact this
    by_cases z : j = 0
    · subst z
      refine Ev.step (f := fun k => impl_GoodSet.j1 k l ((0 : Nat) : Int) (l[0]'(by omega)) 0 l (l.length : Int) ((0 : Nat) : Int) false) (fun k => ?_) (fin _ fun k => ?_)
      · simp only [impl_GoodSet.l0]
        rw [if_pos (by omega), if_pos (by omega), if_pos (by omega), if_neg (by omega), rd_at l 0 (by omega)]
      · simp only [impl_GoodSet.j1]
        rw [if_neg (by simp), if_neg (by omega)]
        rfl
    · have e3 : wrap64 ((j : Int) - 1) = ((j - 1 : Nat) : Int) := by rw [wr _ (by omega) (by omega)]; omega
      have q0 := hp0 z
      have q1 := hp1 z
      have et : ((Int.tmod (j : Int) 2) == 0) = (j % 2 == 0) := by
        rw [show (2 : Int) = ((2 : Nat) : Int) from rfl, ← Int.ofNat_tmod, Bool.eq_iff_iff]
        simp only [beq_iff_eq]
        omega
      refine Ev.step (f := fun k => impl_GoodSet.j1 k l (j : Int) (l[j]'(by omega)) 0 l (l.length : Int) (j : Int) (j % 2 == 0)) (fun k => ?_) (fin _ fun k => ?_)
      · simp only [impl_GoodSet.l0]
        rw [if_pos (by omega), if_pos (by omega), if_pos (by omega), if_pos (by omega), rd_at l j (by omega), et]
      · simp only [impl_GoodSet.j1]
        by_cases z2 : j % 2 = 0
        · rw [if_pos (by simpa using z2), e3, if_pos (by omega), if_pos (by omega), rd_nat, wr (l.getD (j - 1) 0 + 2) (by omega) (by omega)]
          unfold lsi
          rw [if_neg z, if_pos z2]
        · rw [if_neg (by simpa using z2), if_pos (by omega), e3, if_pos (by omega), if_pos (by omega), rd_nat]
          unfold lsi
          rw [if_neg z, if_neg z2]

theorem implSet_ev (l : List Int) (hl : l.length ≤ 17592186044416) : Ev (fun k => impl_GoodSet.f k l) (GoodS l) := by
  have h := implSet_l l hl l.length 0 (by omega) (fun h => absurd rfl h) (fun h => absurd rfl h)
  have e : GoodS l = (GA (0 % 2 == 0) (lsi l 0) (l.drop 0) && decide (l.length % 2 = 0 ∧ l.length ≤ 24)) := by
    by_cases hev : l.length % 2 = 0
    · show (Good 0 l && decide (l.length ≤ 24)) = (GA true 0 l && _)
      rw [ga_good l 0 hev]
      simp [hev]
    · rw [goodS_bad l (by omega)]
      simp [hev]
  rw [e]
  exact Ev.congr (fun k => by unfold impl_GoodSet.f; rfl) h

theorem goodS_facts (l : List Int) (h : GoodS l = true) : l.length ≤ 24 ∧ l.length % 2 = 0 ∧ ∀ x ∈ l, 0 ≤ x ∧ x ≤ 1114111 := by
  unfold GoodS at h
  rw [Bool.and_eq_true, decide_eq_true_eq] at h
  exact ⟨h.2, good_even l 0 h.1, good_all l 0 (by omega) h.1⟩

theorem rdS_I (l : List S49) (j : Nat) (h : j < l.length) : rd_T49 l (j : Int) = l[j] := by unfold rd_T49; simp [List.getD_eq_getElem?_getD, h]
/-- A pattern within bounds. -/
theorem eqReS_l (l : List S49) (h1 : l.length ≤ 1048576) (h2 : ∀ x ∈ l, x.f1.length ≤ 1048576) : ∀ (d j : Nat), j + d = l.length → Ev (fun k => laws_eqReS.l0 k l l (j : Int)) true := by
  intro d
  induction d with
  | zero =>
    intro j hj
    refine Ev.step (f := fun _ => some true) (fun k => ?_) (Ev.now _)
    simp only [laws_eqReS.l0]
    rw [if_neg (by omega)]
  | succ d ih =>
    intro j hj
    have hj' : j < l.length := by omega
    have er : Ev (fun k => laws_eqRe.f k (l[j]'hj').f0 (l[j]'hj').f1 (l[j]'hj').f0 (l[j]'hj').f1) true := by
      unfold laws_eqRe.f
      refine Ev.congr (fun k => by rw [if_pos rfl]) (Ev.bind (eqIntS_ev (l[j]'hj').f1 (l[j]'hj').f1 (by have := h2 _ (List.getElem_mem hj'); omega)) ?_)
      exact Ev.congr (fun k => by rw [if_pos (by simp)]) (Ev.now _)
    refine Ev.step (f := fun k => (laws_eqRe.f k (l[j]'hj').f0 (l[j]'hj').f1 (l[j]'hj').f0 (l[j]'hj').f1).bind fun t => if t = true then laws_eqReS.l0 k l l ((j + 1 : Nat) : Int) else some false) (fun k => ?_) (Ev.bind er (Ev.congr (fun k => by rw [if_pos rfl]) (ih (j + 1) (by omega))))
    simp only [laws_eqReS.l0]
    rw [if_pos (by omega), if_pos (by omega), if_pos (by omega), rdS_I l j hj', wr ((j : Int) + 1) (by omega) (by omega)]
    rfl
theorem eqReS_ev (l : List S49) (h1 : l.length ≤ 1048576) (h2 : ∀ x ∈ l, x.f1.length ≤ 1048576) : Ev (fun k => laws_eqReS.f k l l) true :=
  Ev.congr (fun k => by unfold laws_eqReS.f; rw [if_pos rfl]; rfl) (eqReS_l l h1 h2 l.length 0 (by omega))
/-- How many parts an op has. -/
def arV (a : Int) : Int := if a = 1 then 0 else if a = 2 then 0 else if a = 6 then 1 else if a = 7 then 1 else if a = 3 then 2 else if a = 4 then 2 else if a = 5 then 2 else -1
theorem arV_cases (a : Int) : arV a = 0 ∨ arV a = 1 ∨ arV a = 2 ∨ arV a = -1 := by
  unfold arV
  repeat' split
  all_goals simp
theorem specAr_ev (a : Int) : Ev (fun k => spec_l5Arity.f k a) (arV a) := by
  have j0t : Ev (fun k => spec_l5Arity.j0 k a true) 0 := Ev.step (f := fun _ => some 0) (fun k => by simp [spec_l5Arity.j0]) (Ev.now _)
  have j1t : Ev (fun k => spec_l5Arity.j1 k a true) 1 := Ev.step (f := fun _ => some 1) (fun k => by simp [spec_l5Arity.j1]) (Ev.now _)
  unfold spec_l5Arity.f arV
  by_cases h1 : a = 1
  · rw [if_pos h1]; exact Ev.congr (fun k => by rw [if_pos h1, show (a == 1) = true from by simpa using h1]) j0t
  rw [if_neg h1]
  by_cases h2 : a = 2
  · rw [if_pos h2]; exact Ev.congr (fun k => by rw [if_neg h1, show (a == 2) = true from by simpa using h2]) j0t
  rw [if_neg h2]
  refine Ev.congr (f := fun k => spec_l5Arity.j0 k a false) (fun k => by rw [if_neg h1, show (a == 2) = false from by simpa using h2]) ?_
  by_cases h6 : a = 6
  · rw [if_pos h6]
    exact Ev.step (fun k => by simp only [spec_l5Arity.j0]; rw [if_neg (by simp), if_pos h6, show (a == 6) = true from by simpa using h6]) j1t
  rw [if_neg h6]
  by_cases h7 : a = 7
  · rw [if_pos h7]
    exact Ev.step (fun k => by simp only [spec_l5Arity.j0]; rw [if_neg (by simp), if_neg h6, show (a == 7) = true from by simpa using h7]) j1t
  rw [if_neg h7]
  refine Ev.step (f := fun k => spec_l5Arity.j1 k a false) (fun k => by simp only [spec_l5Arity.j0]; rw [if_neg (by simp), if_neg h6, show (a == 7) = false from by simpa using h7]) ?_
  refine Ev.step (f := fun _ => some (if a = 3 then 2 else if a = 4 then 2 else if a = 5 then 2 else -1)) (fun k => ?_) (Ev.now _)
  simp only [spec_l5Arity.j1]
  rw [if_neg (by simp)]
  split
  · rfl
  · split
    · rfl
    · split <;> rfl
theorem implAr_ev (a : Int) : Ev (fun k => impl_partsOf.f k a) (arV a) := by
  have j0t : Ev (fun k => impl_partsOf.j0 k a true) 0 := Ev.step (f := fun _ => some 0) (fun k => by simp [impl_partsOf.j0]) (Ev.now _)
  have j1t : Ev (fun k => impl_partsOf.j1 k a true) 1 := Ev.step (f := fun _ => some 1) (fun k => by simp [impl_partsOf.j1]) (Ev.now _)
  unfold impl_partsOf.f arV
  by_cases h1 : a = 1
  · rw [if_pos h1]; exact Ev.congr (fun k => by rw [if_pos h1, show (a == 1) = true from by simpa using h1]) j0t
  rw [if_neg h1]
  by_cases h2 : a = 2
  · rw [if_pos h2]; exact Ev.congr (fun k => by rw [if_neg h1, show (a == 2) = true from by simpa using h2]) j0t
  rw [if_neg h2]
  refine Ev.congr (f := fun k => impl_partsOf.j0 k a false) (fun k => by rw [if_neg h1, show (a == 2) = false from by simpa using h2]) ?_
  by_cases h6 : a = 6
  · rw [if_pos h6]
    exact Ev.step (fun k => by simp only [impl_partsOf.j0]; rw [if_neg (by simp), if_pos h6, show (a == 6) = true from by simpa using h6]) j1t
  rw [if_neg h6]
  by_cases h7 : a = 7
  · rw [if_pos h7]
    exact Ev.step (fun k => by simp only [impl_partsOf.j0]; rw [if_neg (by simp), if_neg h6, show (a == 7) = true from by simpa using h7]) j1t
  rw [if_neg h7]
  refine Ev.step (f := fun k => impl_partsOf.j1 k a false) (fun k => by simp only [impl_partsOf.j0]; rw [if_neg (by simp), if_neg h6, show (a == 7) = false from by simpa using h7]) ?_
  refine Ev.step (f := fun _ => some (if a = 3 then 2 else if a = 4 then 2 else if a = 5 then 2 else -1)) (fun k => ?_) (Ev.now _)
  simp only [impl_partsOf.j1]
  rw [if_neg (by simp)]
  split
  · rfl
  · split
    · rfl
    · split <;> rfl

/-- A node's set is as it must be. -/
def setOk (x : S49) : Bool := GoodS x.f1 && (x.f1.all isR && (decide (x.f0 = 2) || decide (x.f1.length = 0)))
/-- The nodes stand as they must. -/
def stackV : Int → List S49 → Bool
  | c, [] => c == 1
  | c, x :: r => decide (0 ≤ arV x.f0) && (decide (arV x.f0 ≤ c) && stackV (c + 1 - arV x.f0) r)
def GoodRV (l : List S49) : Bool := decide (l.length ≤ 40) && (l.all setOk && stackV 0 l)

theorem node_ev (x : S49) (hl : x.f1.length ≤ 1048576) : Ev (fun k => spec_l5Node.f k x.f0 x.f1) (decide (0 ≤ arV x.f0) && setOk x) := by
  have q : ∀ g : Nat → Option Bool, (∀ k, g k = (spec_GoodSet.f k x.f1).bind fun t146 => if t146 = true then (spec_l1AllRunes.f k x.f1).bind fun t147 => some t147 else some false) → Ev g (GoodS x.f1 && x.f1.all isR) := by
    intro g hg
    refine Ev.congr hg (Ev.bind (specSet_ev x.f1 (by omega)) ?_)
    cases hs : GoodS x.f1 with
    | false => exact Ev.congr (fun k => by rw [if_neg (by simp)]) (by simpa using Ev.now false)
    | true =>
      have h24 := (goodS_facts x.f1 hs).1
      refine Ev.congr (fun k => by rw [if_pos rfl]) (Ev.bind (specAllRunes_ev x.f1 (by omega)) ?_)
      rw [show decide (x.f1.length ≤ 1000) = true from decide_eq_true (by omega), Bool.and_true, Bool.true_and]
      exact Ev.now _
  unfold spec_l5Node.f setOk
  refine Ev.bind (specAr_ev x.f0) ?_
  by_cases h0 : arV x.f0 < 0
  · rw [show decide (0 ≤ arV x.f0) = false from decide_eq_false (by omega), Bool.false_and]
    exact Ev.congr (fun k => by rw [if_pos h0]) (Ev.now _)
  · rw [show decide (0 ≤ arV x.f0) = true from decide_eq_true (by omega), Bool.true_and]
    by_cases h2 : x.f0 = 2
    · rw [decide_eq_true h2, Bool.true_or, Bool.and_true]
      exact q _ (fun k => by rw [if_neg h0, if_pos h2])
    · rw [decide_eq_false h2, Bool.false_or]
      by_cases h3 : x.f1.length = 0
      · rw [decide_eq_true h3, Bool.and_true]
        exact q _ (fun k => by rw [if_neg h0, if_neg h2, if_neg (by omega)])
      · rw [decide_eq_false h3, Bool.and_false, Bool.and_false]
        exact Ev.congr (fun k => by rw [if_neg h0, if_neg h2, if_pos (by omega)]) (Ev.now _)
theorem specGoodRe_l (l : List S49) (hl : l.length ≤ 1000) (hr : ∀ x ∈ l, x.f1.length ≤ 1048576) : ∀ (d j : Nat) (c : Int), j + d = l.length → 0 ≤ c → c ≤ j → Ev (fun k => spec_l5Good.l0 k c l (l.length : Int) (j : Int)) ((l.drop j).all setOk && stackV c (l.drop j)) := by
  intro d
  induction d with
  | zero =>
    intro j c hj h0 h1
    refine Ev.step (f := fun _ => some (c == 1)) (fun k => ?_) (by rw [List.drop_of_length_le (by omega)]; exact Ev.now _)
    simp only [spec_l5Good.l0]
    rw [if_neg (by omega)]
  | succ d ih =>
    intro j c hj h0 h1
    have hj' : j < l.length := by omega
    have hx := hr _ (List.getElem_mem hj')
    have e1 : wrap64 ((j : Int) + 1) = ((j + 1 : Nat) : Int) := by rw [wr _ (by omega) (by omega)]; omega
    rw [List.drop_eq_getElem_cons hj', List.all_cons, stackV]
    refine Ev.step (fun k => by simp only [spec_l5Good.l0]; rw [if_pos (by omega), if_pos (by omega), if_pos (by omega), rdS_I l j hj', e1]) ?_
    refine Ev.bind (node_ev (l[j]'hj') hx) ?_
    have hc := arV_cases (l[j]'hj').f0
    by_cases ha : 0 ≤ arV (l[j]'hj').f0
    · rw [decide_eq_true ha, Bool.true_and, Bool.true_and]
      cases setOk (l[j]'hj') with
      | false => exact Ev.congr (fun k => by rw [if_neg (by simp)]) (by simpa using Ev.now false)
      | true =>
        refine Ev.congr (fun k => by rw [if_pos rfl]) (Ev.bind (specAr_ev (l[j]'hj').f0) ?_)
        rw [Bool.true_and]
        by_cases hp : c < arV (l[j]'hj').f0
        · rw [show decide (arV (l[j]'hj').f0 ≤ c) = false from decide_eq_false (by omega), Bool.false_and, Bool.and_false]
          exact Ev.congr (fun k => by rw [if_pos hp]) (Ev.now _)
        · rw [show decide (arV (l[j]'hj').f0 ≤ c) = true from decide_eq_true (by omega), Bool.true_and]
          refine Ev.congr (fun k => by rw [if_neg hp]) (Ev.bind (specAr_ev (l[j]'hj').f0) ?_)
          have e2 : wrap64 (c + wrap64 (1 - arV (l[j]'hj').f0)) = c + 1 - arV (l[j]'hj').f0 := by rw [wr (1 - arV (l[j]'hj').f0) (by omega) (by omega), wr _ (by omega) (by omega)]; omega
          rw [e2]
          exact ih (j + 1) (c + 1 - arV (l[j]'hj').f0) (by omega) (by omega) (by omega)
    · rw [decide_eq_false ha, Bool.false_and, Bool.false_and, Bool.and_false]
      exact Ev.congr (fun k => by rw [if_neg (by simp)]) (Ev.now _)
theorem specGoodRe_ev (l : List S49) (hl : l.length ≤ 1048576) (hr : ∀ x ∈ l, x.f1.length ≤ 1048576) : Ev (fun k => spec_GoodRe.f k l) (GoodRV l) := by
  unfold spec_GoodRe.f GoodRV
  by_cases h : l.length ≤ 40
  · rw [decide_eq_true h, Bool.true_and]
    refine Ev.congr (fun k => by rw [if_pos (by omega)]) (Ev.bind (a := l.all setOk && stackV 0 l) ?_ (Ev.now _))
    unfold spec_l5Good.f
    simpa using specGoodRe_l l (by omega) hr l.length 0 0 (by omega) (by omega) (by omega)
  · rw [decide_eq_false h, Bool.false_and]
    exact Ev.congr (fun k => by rw [if_neg (by omega)]) (Ev.now _)

theorem clone_v (l : List Int) (h : l.length ≤ 1099511627776) : slices_Clone_int_int.f l = some l := by
  unfold slices_Clone_int_int.f
  rw [if_pos (by omega)]
theorem parts_l (l : List S49) (hl : l.length ≤ 1000) : ∀ (d j : Nat) (acc : List (List Int)) (pile : List Int), j + d = l.length → acc.length ≤ j → pile.length ≤ j → ∃ L, Ev (fun k => impl_parts.l0 k acc pile l (l.length : Int) (j : Int)) (L, stackV (pile.length : Int) (l.drop j)) := by
  intro d
  induction d with
  | zero =>
    intro j acc pile hj ha hp
    refine ⟨acc, Ev.step (f := fun _ => some (acc, (pile.length : Int) == 1)) (fun k => ?_) (by rw [List.drop_of_length_le (by omega)]; exact Ev.now _)⟩
    simp only [impl_parts.l0]
    rw [if_neg (by omega)]
  | succ d ih =>
    intro j acc pile hj hacc hp
    have hj' : j < l.length := by omega
    have e1 : wrap64 ((j : Int) + 1) = ((j + 1 : Nat) : Int) := by rw [wr _ (by omega) (by omega)]; omega
    rw [List.drop_eq_getElem_cons hj', stackV]
    have hc := arV_cases (l[j]'hj').f0
    have st : ∀ (g : Nat → Option (List (List Int) × Bool)) r, Ev g r → (∀ k, (if arV (l[j]'hj').f0 < 0 then some (([] : List (List Int)), false) else (if arV (l[j]'hj').f0 > (pile.length : Int) then some (([] : List (List Int)), false) else (if 0 ≤ (wrap64 ((pile.length : Int) - arV (l[j]'hj').f0)) then (if (wrap64 ((pile.length : Int) - arV (l[j]'hj').f0)) ≤ (pile.length : Int) then ((slices_Clone_int_int.f (pile.drop ((wrap64 ((pile.length : Int) - arV (l[j]'hj').f0)) : Int).toNat)).bind fun t180 => (if acc.length < 5864062014805 then ((some (pile.take ((wrap64 ((pile.length : Int) - arV (l[j]'hj').f0)) : Int).toNat : List Int)).bind fun y186 => (if y186.length < 17592186044416 then (impl_parts.l0 k (acc ++ [t180]) (y186 ++ [(j : Int)]) l (l.length : Int) ((j + 1 : Nat) : Int)) else (none))) else (none))) else (none)) else (none)))) = g k) → Ev (fun k => impl_parts.l0 k acc pile l (l.length : Int) (j : Int)) r := by
      intro g r hg he
      refine Ev.step (fun k => by simp only [impl_parts.l0]; rw [if_pos (by omega), if_pos (by omega), if_pos (by omega), rdS_I l j hj', e1]) ?_
      exact Ev.bind (implAr_ev (l[j]'hj').f0) (Ev.congr he hg)
    by_cases ha : 0 ≤ arV (l[j]'hj').f0
    · rw [decide_eq_true ha, Bool.true_and]
      by_cases hq : arV (l[j]'hj').f0 > (pile.length : Int)
      · refine ⟨[], st (fun _ => some ([], false)) _ ?_ (fun k => by rw [if_neg (by omega), if_pos hq])⟩
        rw [show decide (arV (l[j]'hj').f0 ≤ (pile.length : Int)) = false from decide_eq_false (by omega), Bool.false_and]
        exact Ev.now _
      · rw [show decide (arV (l[j]'hj').f0 ≤ (pile.length : Int)) = true from decide_eq_true (by omega), Bool.true_and]
        obtain ⟨n, hn⟩ : ∃ n : Nat, (pile.length : Int) - arV (l[j]'hj').f0 = (n : Int) := ⟨((pile.length : Int) - arV (l[j]'hj').f0).toNat, by omega⟩
        have e2 : wrap64 ((pile.length : Int) - arV (l[j]'hj').f0) = (n : Int) := by rw [hn, wr _ (by omega) (by omega)]
        have hz : (pile.drop n).length ≤ pile.length := by rw [List.length_drop]; omega
        have ht : (pile.take n).length = n := by rw [List.length_take]; omega
        obtain ⟨L, hL⟩ := ih (j + 1) (acc ++ [pile.drop n]) (pile.take n ++ [(j : Int)]) (by omega) (by simp; omega) (by rw [List.length_append, ht]; simp; omega)
        refine ⟨L, st (fun k => impl_parts.l0 k (acc ++ [pile.drop n]) (pile.take n ++ [(j : Int)]) l (l.length : Int) ((j + 1 : Nat) : Int)) _ ?_ (fun k => ?_)⟩
        · rw [List.length_append, ht] at hL
          rw [show (pile.length : Int) + 1 - arV (l[j]'hj').f0 = ((n + [(j : Int)].length : Nat) : Int) from by simp; omega]
          exact hL
        · rw [if_neg (by omega), if_neg hq, e2, if_pos (by omega), if_pos (by omega), Int.toNat_natCast, clone_v _ (by omega), Option.bind_some, if_pos (by omega), Option.bind_some, if_pos (by omega)]
    · refine ⟨[], st (fun _ => some ([], false)) _ ?_ (fun k => by rw [if_pos (by omega)])⟩
      rw [decide_eq_false ha, Bool.false_and]
      exact Ev.now _
theorem parts_ev (l : List S49) (hl : l.length ≤ 1000) : ∃ L, Ev (fun k => impl_parts.f k l) (L, stackV 0 l) := by
  obtain ⟨L, h⟩ := parts_l l hl l.length 0 [] [] (by omega) (by simp) (by simp)
  exact ⟨L, Ev.congr (fun k => by unfold impl_parts.f; rfl) (by simpa using h)⟩

theorem anyO_ev {α : Type} (f : Nat → α → Option Bool) (p : α → Bool) (l : List α) (h : ∀ x ∈ l, Ev (fun k => f k x) (p x)) : Ev (fun k => anyO (f k) l) (l.any p) := by
  have key : ∃ K, ∀ k, K ≤ k → ∀ x ∈ l, f k x = some (p x) := by
    induction l with
    | nil => exact ⟨0, fun k _ x hx => by cases hx⟩
    | cons y t ih =>
      obtain ⟨K1, h1⟩ := ih (fun x hx => h x (by simp [hx]))
      obtain ⟨K2, h2⟩ := h y (by simp)
      refine ⟨max K1 K2, fun k hk x hx => ?_⟩
      rcases List.mem_cons.1 hx with rfl | hx
      · exact h2 k (by omega)
      · exact h1 k (by omega) x hx
  obtain ⟨K, hK⟩ := key
  refine ⟨K, fun k hk => ?_⟩
  have hf := hK k hk
  show anyO (f k) l = some (l.any p)
  unfold anyO
  rw [if_pos (List.all_eq_true.2 fun x hx => by rw [hf x hx]; rfl)]
  congr 1
  rw [Bool.eq_iff_iff, List.any_eq_true, List.any_eq_true]
  exact ⟨fun ⟨x, hx, e⟩ => ⟨x, hx, by rw [hf x hx] at e; exact e⟩, fun ⟨x, hx, e⟩ => ⟨x, hx, by rw [hf x hx]; exact e⟩⟩
theorem badRune_isR (r : Int) : badRuneV r = !isR r := by
  unfold badRuneV goodRuneV isR inB
  rfl
theorem badRe_ev (x : S49) (hl : x.f1.length ≤ 1048576) : Ev (fun k => badReO k x) (!setOk x) := by
  unfold badReO
  refine Ev.bind (implSet_ev x.f1 (by omega)) ?_
  have e : (!GoodS x.f1 || (x.f1.any badRuneV || (decide (x.f0 ≠ 2) && decide ((x.f1.length : Int) > 0)))) = !setOk x := by
    unfold setOk
    have e1 : x.f1.any badRuneV = !x.f1.all isR := by
      rw [List.not_all_eq_any_not]
      exact congrArg x.f1.any (funext badRune_isR)
    have e2 : (decide (x.f0 ≠ 2) && decide ((x.f1.length : Int) > 0)) = !(decide (x.f0 = 2) || decide (x.f1.length = 0)) := by
      rw [Bool.not_or, Bool.eq_iff_iff]
      simp only [Bool.and_eq_true, decide_eq_true_eq, Bool.not_eq_true', decide_eq_false_iff_not]
      omega
    rw [e1, e2, Bool.not_and, Bool.not_and]
  rw [e]
  exact Ev.now _
theorem implGoodRe_ev (l : List S49) (hl : l.length ≤ 1048576) (hr : ∀ x ∈ l, x.f1.length ≤ 1048576) : Ev (fun k => impl_GoodRe.f k l) (GoodRV l) := by
  unfold impl_GoodRe.f GoodRV
  rw [in_i]
  refine Ev.bind (Ev.now _) ?_
  by_cases h : 1 ≤ (l.length : Int) ∧ (l.length : Int) ≤ 40
  · rw [(inB_iff 1 40 _).2 h, decide_eq_true (show l.length ≤ 40 by omega), Bool.true_and]
    refine Ev.congr (fun k => by rw [if_pos rfl]) (Ev.bind (anyO_ev (fun k x => badReO k x) (fun x => !setOk x) l (fun x hx => badRe_ev x (hr x hx))) ?_)
    rw [← List.not_all_eq_any_not]
    cases l.all setOk with
    | false => exact Ev.congr (fun k => by rw [if_pos (by simp)]) (by simpa using Ev.now false)
    | true =>
      obtain ⟨L, hL⟩ := parts_ev l (by omega)
      refine Ev.congr (fun k => by rw [if_neg (by simp)]) (Ev.bind hL ?_)
      rw [Bool.true_and]
      exact Ev.now _
  · rw [show inB 1 40 (l.length : Int) = false from by cases e : inB 1 40 (l.length : Int) with | false => rfl | true => exact absurd ((inB_iff _ _ _).1 e) h]
    refine Ev.congr (fun k => by rw [if_neg (by simp)]) ?_
    by_cases h0 : l.length ≤ 40
    · have : l = [] := List.eq_nil_of_length_eq_zero (by omega)
      subst this
      exact Ev.now _
    · rw [decide_eq_false h0, Bool.false_and]
      exact Ev.now _
theorem goodS_nil : GoodS [] = true := by first | rfl | decide | simp [GoodS]
/-- A pattern as a tree. -/
inductive Pt where
  | l (n : S49) : Pt
  | u (n : S49) (a : Pt) : Pt
  | b (n : S49) (x y : Pt) : Pt
namespace Pt
def flat : Pt → List S49
  | l n => [n]
  | u n a => a.flat ++ [n]
  | b n x y => x.flat ++ (y.flat ++ [n])
def ok : Pt → Prop
  | l n => arV n.f0 = 0
  | u n a => arV n.f0 = 1 ∧ a.ok
  | b n x y => arV n.f0 = 2 ∧ x.ok ∧ y.ok
theorem flat_pos : ∀ t : Pt, 0 < t.flat.length
  | l _ => by simp [flat]
  | u _ _ => by simp [flat]
  | b _ _ _ => by simp [flat]; omega
/-- The root's node. -/
def root : Pt → S49
  | l n => n
  | u n _ => n
  | b n _ _ => n
theorem flat_last : ∀ t : Pt, ∃ i, t.flat = i ++ [t.root]
  | l n => ⟨[], rfl⟩
  | u n a => ⟨a.flat, rfl⟩
  | b n x y => ⟨x.flat ++ y.flat, by simp [flat, root]⟩
end Pt
def flats : List Pt → List S49
  | [] => []
  | t :: st => flats st ++ t.flat
def oks (st : List Pt) : Prop := ∀ t ∈ st, t.ok
/-- What a stack of trees becomes by nodes. -/
def build : List S49 → List Pt → Option (List Pt)
  | [], st => some st
  | n :: p, st => if arV n.f0 = 0 then build p (.l n :: st) else if arV n.f0 = 1 then (match st with | a :: st => build p (.u n a :: st) | [] => none) else if arV n.f0 = 2 then (match st with | y :: x :: st => build p (.b n x y :: st) | _ => none) else none
theorem build_flat : ∀ (t : Pt), t.ok → ∀ p st, build (t.flat ++ p) st = build p (t :: st)
  | .l n, h, p, st => by
    simp only [Pt.ok] at h
    simp only [Pt.flat, List.cons_append, List.nil_append, build]
    rw [if_pos h]
  | .u n a, h, p, st => by
    obtain ⟨h1, h2⟩ := h
    simp only [Pt.flat, List.append_assoc]
    rw [build_flat a h2]
    simp only [List.cons_append, List.nil_append, build]
    rw [if_neg (by omega), if_pos h1]
  | .b n x y, h, p, st => by
    obtain ⟨h1, h2, h3⟩ := h
    simp only [Pt.flat, List.append_assoc]
    rw [build_flat x h2, build_flat y h3]
    simp only [List.cons_append, List.nil_append, build]
    rw [if_neg (by omega), if_neg (by omega), if_pos h1]
theorem build_inv : ∀ (p : List S49) (st st' : List Pt), oks st → build p st = some st' → oks st' ∧ flats st' = flats st ++ p
  | [], st, st', hk, h => by
    simp only [build, Option.some.injEq] at h
    subst h
    exact ⟨hk, by simp⟩
  | n :: p, st, st', hk, h => by
    simp only [build] at h
    split at h
    · rename_i h0
      obtain ⟨a, b⟩ := build_inv p _ _ (fun t ht => by rcases List.mem_cons.1 ht with rfl | ht; exact h0; exact hk t ht) h
      exact ⟨a, by rw [b]; simp [flats, Pt.flat]⟩
    · split at h
      · rename_i h1
        cases st with
        | nil => cases h
        | cons a st =>
          obtain ⟨q, r⟩ := build_inv p _ _ (fun t ht => by rcases List.mem_cons.1 ht with rfl | ht; exact ⟨h1, hk a (by simp)⟩; exact hk t (by simp [ht])) h
          exact ⟨q, by rw [r]; simp [flats, Pt.flat]⟩
      · split at h
        · rename_i h2
          match st, hk, h with
          | [], _, h => cases h
          | [_], _, h => cases h
          | y :: x :: st, hk, h =>
            obtain ⟨q, r⟩ := build_inv p _ _ (fun t ht => by rcases List.mem_cons.1 ht with rfl | ht; exact ⟨h2, hk x (by simp), hk y (by simp)⟩; exact hk t (by simp [ht])) h
            exact ⟨q, by rw [r]; simp [flats, Pt.flat]⟩
        · cases h
/-- A list of nodes whose count stays right is built. -/
theorem build_stack : ∀ (p : List S49) (st : List Pt), stackV (st.length : Int) p = true → ∃ t, build p st = some [t]
  | [], st, h => by
    simp only [stackV, decide_eq_true_eq] at h
    match st, h with
    | [t], _ => exact ⟨t, rfl⟩
    | [], h => simp at h
    | _ :: _ :: st, h => simp at h; omega
  | n :: p, st, h => by
    simp only [stackV, Bool.and_eq_true, decide_eq_true_eq] at h
    obtain ⟨h0, h1, h2⟩ := h
    simp only [build]
    split
    · rename_i e
      exact build_stack p _ (by rw [e] at h2; simpa using h2)
    · split
      · rename_i e
        match st, h1, h2 with
        | [], h1, _ => simp at h1; omega
        | a :: st, _, h2 => exact build_stack p _ (by rw [e] at h2; simpa using h2)
      · split
        · rename_i e
          match st, h1, h2 with
          | [], h1, _ => simp at h1; omega
          | [_], h1, _ => simp at h1; omega
          | y :: x :: st, _, h2 => exact build_stack p _ (by rw [e] at h2; simp only [List.length_cons] at h2 ⊢; rw [show (((st.length + 1 : Nat)) : Int) = ((st.length + 1 + 1 : Nat) : Int) + 1 - 2 from by omega]; exact h2)
        · rename_i e0 e1 e2
          exfalso
          unfold arV at h0 e0 e1 e2
          repeat' split at h0
          all_goals simp_all
theorem stack_flat : ∀ (t : Pt), t.ok → ∀ (p : List S49) (c : Int), 0 ≤ c → stackV c (t.flat ++ p) = stackV (c + 1) p
  | .l n, h, p, c, hc => by
    simp only [Pt.ok] at h
    simp only [Pt.flat, List.cons_append, List.nil_append, stackV]
    rw [h, decide_eq_true (by omega), decide_eq_true (by omega), Bool.true_and, Bool.true_and, show c + 1 - 0 = c + 1 from by omega]
  | .u n a, h, p, c, hc => by
    obtain ⟨h1, h2⟩ := h
    simp only [Pt.flat, List.append_assoc]
    rw [stack_flat a h2 _ c hc]
    simp only [List.cons_append, List.nil_append, stackV]
    rw [h1, decide_eq_true (by omega), decide_eq_true (by omega), Bool.true_and, Bool.true_and, show c + 1 + 1 - 1 = c + 1 from by omega]
  | .b n x y, h, p, c, hc => by
    obtain ⟨h1, h2, h3⟩ := h
    simp only [Pt.flat, List.append_assoc]
    rw [stack_flat x h2 _ c hc, stack_flat y h3 _ _ (by omega)]
    simp only [List.cons_append, List.nil_append, stackV]
    rw [h1, decide_eq_true (by omega), decide_eq_true (by omega), Bool.true_and, Bool.true_and, show c + 1 + 1 + 1 - 2 = c + 1 from by omega]
/-- A good list is one tree's. -/
theorem tree_of (p : List S49) (h : stackV 0 p = true) : ∃ t : Pt, t.ok ∧ p = t.flat := by
  obtain ⟨t, ht⟩ := build_stack p [] h
  obtain ⟨a, b⟩ := build_inv p [] [t] (fun _ h => by cases h) ht
  exact ⟨t, a t (by simp), by simpa [flats] using b.symm⟩
theorem stack_tree (t : Pt) (h : t.ok) : stackV 0 t.flat = true := by
  have := stack_flat t h [] 0 (by omega)
  rw [List.append_nil] at this
  rw [this]; simp [stackV]
theorem flat_inj {t t' : Pt} (h : t.ok) (h' : t'.ok) (e : t.flat = t'.flat) : t = t' := by
  have a := build_flat t h [] []
  have b := build_flat t' h' [] []
  rw [e] at a
  rw [a] at b
  simpa [build] using b
/-- A node without a set. -/
def nd (op : Int) : S49 := ⟨op, []⟩
theorem nd_ok (op : Int) : setOk (nd op) = true := by simp [setOk, nd, goodS_nil]
/-- Every node's set is as it must be. -/
def Pt.sets (t : Pt) : Prop := ∀ x ∈ t.flat, setOk x = true
theorem Pt.sets_l {n : S49} : (Pt.l n).sets ↔ setOk n = true := by simp [Pt.sets, Pt.flat]
theorem Pt.sets_u {n : S49} {a : Pt} : (Pt.u n a).sets ↔ a.sets ∧ setOk n = true := by
  simp only [Pt.sets, Pt.flat, List.mem_append, List.mem_singleton]
  exact ⟨fun h => ⟨fun x hx => h x (.inl hx), h n (.inr rfl)⟩, fun h x hx => hx.elim (h.1 x) (fun e => e ▸ h.2)⟩
theorem Pt.sets_b {n : S49} {a b : Pt} : (Pt.b n a b).sets ↔ a.sets ∧ b.sets ∧ setOk n = true := by
  simp only [Pt.sets, Pt.flat, List.mem_append, List.mem_singleton]
  exact ⟨fun h => ⟨fun x hx => h x (.inl hx), fun x hx => h x (.inr (.inl hx)), h n (.inr (.inr rfl))⟩, fun h x hx => hx.elim (h.1 x) (fun e => e.elim (h.2.1 x) (fun e => e ▸ h.2.2))⟩
/-- Good lists are the good trees'. -/
theorem good_tree {p : List S49} (h : GoodRV p = true) : ∃ t : Pt, t.ok ∧ t.sets ∧ p = t.flat ∧ p.length ≤ 40 := by
  simp only [GoodRV, Bool.and_eq_true, decide_eq_true_eq] at h
  obtain ⟨h1, h2, h3⟩ := h
  obtain ⟨t, a, b⟩ := tree_of p h3
  subst b
  exact ⟨t, a, fun x hx => List.all_eq_true.1 h2 x hx, rfl, h1⟩
theorem tree_good {t : Pt} (h1 : t.ok) (h2 : t.sets) : GoodRV t.flat = decide (t.flat.length ≤ 40) := by
  simp only [GoodRV]
  rw [List.all_eq_true.2 h2, stack_tree t h1]; simp
/-- A node that is no set's has none. -/
theorem set_none {n : S49} (h : setOk n = true) (h2 : n.f0 ≠ 2) : n.f1 = [] := by
  simp only [setOk, Bool.and_eq_true, Bool.or_eq_true, decide_eq_true_eq, List.length_eq_zero_iff] at h
  rcases h.2.2 with h | h
  · exact absurd h h2
  · exact h
theorem nd_eq {n : S49} (h : setOk n = true) (h2 : n.f0 ≠ 2) : n = nd n.f0 := by
  obtain ⟨a, b⟩ := n
  have := set_none h h2
  simp only at this
  subst this
  rfl
theorem ar_ne {a : Int} (h : arV a ≠ 0) : a ≠ 2 := by
  rintro rfl
  exact h (by simp [arV])
/-- The parts of each ReCat the other way round. -/
def Pt.rev : Pt → Pt
  | .l n => .l n
  | .u n a => .u (nd n.f0) a.rev
  | .b n x y => if n.f0 = 3 then .b (nd n.f0) y.rev x.rev else .b (nd n.f0) x.rev y.rev
theorem Pt.rev_ok : ∀ t : Pt, t.ok → t.rev.ok
  | .l _, h => h
  | .u _ a, h => ⟨h.1, a.rev_ok h.2⟩
  | .b n x y, h => by
    unfold Pt.rev
    split
    · exact ⟨h.1, y.rev_ok h.2.2, x.rev_ok h.2.1⟩
    · exact ⟨h.1, x.rev_ok h.2.1, y.rev_ok h.2.2⟩
theorem Pt.rev_sets : ∀ t : Pt, t.sets → t.rev.sets
  | .l _, h => h
  | .u _ a, h => Pt.sets_u.2 ⟨a.rev_sets (Pt.sets_u.1 h).1, nd_ok _⟩
  | .b n x y, h => by
    obtain ⟨h1, h2, _⟩ := Pt.sets_b.1 h
    unfold Pt.rev
    split
    · exact Pt.sets_b.2 ⟨y.rev_sets h2, x.rev_sets h1, nd_ok _⟩
    · exact Pt.sets_b.2 ⟨x.rev_sets h1, y.rev_sets h2, nd_ok _⟩
theorem Pt.rev_len : ∀ t : Pt, t.rev.flat.length = t.flat.length
  | .l _ => rfl
  | .u _ a => by simp [Pt.rev, Pt.flat, a.rev_len]
  | .b n x y => by
    unfold Pt.rev
    split <;> simp [Pt.flat, x.rev_len, y.rev_len] <;> omega
/-- Two nodes, two patterns are the same. -/
def sameN (x y : S49) : Bool := x.f0 == y.f0 && x.f1 == y.f1
def sameP : List S49 → List S49 → Bool
  | [], [] => true
  | x :: a, y :: b => sameN x y && sameP a b
  | _, _ => false
theorem sameN_eq {x y : S49} : sameN x y = true ↔ x = y := by
  obtain ⟨a, b⟩ := x
  obtain ⟨c, d⟩ := y
  simp [sameN]
theorem sameP_eq : ∀ {a b : List S49}, sameP a b = true ↔ a = b
  | [], [] => by simp [sameP]
  | x :: a, y :: b => by simp [sameP, sameN_eq, sameP_eq (a := a) (b := b)]
  | [], _ :: _ => by simp [sameP]
  | _ :: _, [] => by simp [sameP]
/-- A tree's nodes that are well set: a list of them. -/
def isTree (p : List S49) : Prop := ∃ t : Pt, t.ok ∧ t.sets ∧ p = t.flat
theorem isTree.pos {p : List S49} (h : isTree p) : 0 < p.length := by
  obtain ⟨t, _, _, rfl⟩ := h
  exact t.flat_pos
theorem isTree_nd0 {op : Int} (h : arV op = 0) : isTree [nd op] := ⟨.l (nd op), h, Pt.sets_l.2 (nd_ok op), rfl⟩
theorem isTree_1 {op : Int} {p : List S49} (h : arV op = 1) (hp : isTree p) : isTree (p ++ [nd op]) := by
  obtain ⟨t, a, b, rfl⟩ := hp
  exact ⟨.u (nd op) t, ⟨h, a⟩, Pt.sets_u.2 ⟨b, nd_ok op⟩, rfl⟩
theorem isTree_2 {op : Int} {p q : List S49} (h : arV op = 2) (hp : isTree p) (hq : isTree q) : isTree (p ++ (q ++ [nd op])) := by
  obtain ⟨t, a, b, rfl⟩ := hp
  obtain ⟨t', a', b', rfl⟩ := hq
  exact ⟨.b (nd op) t t', ⟨h, a, a'⟩, Pt.sets_b.2 ⟨b, b', nd_ok op⟩, rfl⟩
/-- The last node's op. -/
def lastOp (p : List S49) : Int := (p.getLastD ⟨0, []⟩).f0
theorem lastOp_snoc (p : List S49) (n : S49) : lastOp (p ++ [n]) = n.f0 := by simp [lastOp]
theorem isTree_not {p : List S49} (hp : isTree p) (h : arV (lastOp p) = 1) : isTree p.dropLast := by
  obtain ⟨t, a, b, rfl⟩ := hp
  cases t with
  | l n => simp only [Pt.flat, lastOp, List.getLastD_cons, List.getLastD_nil] at h; simp only [Pt.ok] at a; omega
  | u n t => exact ⟨t, a.2, (Pt.sets_u.1 b).1, by simp [Pt.flat]⟩
  | b n x y =>
    exfalso
    have : lastOp (Pt.b n x y).flat = n.f0 := by
      rw [show (Pt.b n x y).flat = (x.flat ++ y.flat) ++ [n] from by simp [Pt.flat]]; exact lastOp_snoc _ _
    rw [this] at h
    have := a.1
    omega
/-- What a node of tidy parts is tidied to. -/
def isNo (p : List S49) : Bool := sameP p [nd 2]
def isNi (p : List S49) : Bool := sameP p [nd 1]
def tidied1 (op : Int) (a : List S49) : List S49 :=
  if op = 6 then (if isNi a = true then [nd 1] else if isNo a = true then [nd 1] else if lastOp a = 6 then a else a ++ [nd op]) else if lastOp a = 7 then a.dropLast else a ++ [nd op]
def tidied2 (op : Int) (a b : List S49) : List S49 :=
  if op = 3 then (if isNo a = true then [nd 2] else if isNo b = true then [nd 2] else if isNi a = true then b else if isNi b = true then a else a ++ (b ++ [nd op]))
  else if op = 4 then (if isNo a = true then b else if sameP a b = true then b else if isNo b = true then a else a ++ (b ++ [nd op]))
  else (if isNo a = true then [nd 2] else if isNo b = true then [nd 2] else if sameP a b = true then a else a ++ (b ++ [nd op]))
def Pt.tid : Pt → List S49
  | .l n => [n]
  | .u n a => tidied1 n.f0 a.tid
  | .b n x y => tidied2 n.f0 x.tid y.tid
theorem isTree_tidied1 {op : Int} {a : List S49} (h : arV op = 1) (ha : isTree a) : isTree (tidied1 op a) := by
  unfold tidied1
  split
  · repeat' split
    all_goals first
      | exact isTree_nd0 (by simp [arV])
      | exact isTree_1 h ha
      | exact ha
  · split
    · rename_i e
      exact isTree_not ha (by rw [e]; simp [arV])
    · exact isTree_1 h ha
theorem isTree_tidied2 {op : Int} {a b : List S49} (h : arV op = 2) (ha : isTree a) (hb : isTree b) : isTree (tidied2 op a b) := by
  unfold tidied2
  repeat' split
  all_goals first
    | exact isTree_nd0 (by simp [arV])
    | exact isTree_2 h ha hb
    | assumption
theorem Pt.tid_tree : ∀ t : Pt, t.ok → t.sets → isTree t.tid
  | .l n, h, hs => ⟨.l n, h, hs, rfl⟩
  | .u n a, h, hs => isTree_tidied1 h.1 (a.tid_tree h.2 (Pt.sets_u.1 hs).1)
  | .b n x y, h, hs => isTree_tidied2 h.1 (x.tid_tree h.2.1 (Pt.sets_b.1 hs).1) (y.tid_tree h.2.2 (Pt.sets_b.1 hs).2.1)
theorem tidied1_len (op : Int) (a : List S49) (_ha : 0 < a.length) : (tidied1 op a).length ≤ a.length + 1 := by
  unfold tidied1
  repeat' split
  all_goals first | omega | (simp <;> omega)
theorem tidied2_len (op : Int) (a b : List S49) : (tidied2 op a b).length ≤ a.length + b.length + 1 := by
  unfold tidied2
  repeat' split
  all_goals first | omega | (simp <;> omega)
theorem Pt.tid_len : ∀ t : Pt, t.ok → t.sets → t.tid.length ≤ t.flat.length
  | .l n, _, _ => by simp [Pt.tid, Pt.flat]
  | .u n a, h, hs => by
    have h1 := a.tid_len h.2 (Pt.sets_u.1 hs).1
    have h2 := tidied1_len n.f0 a.tid (a.tid_tree h.2 (Pt.sets_u.1 hs).1).pos
    simp only [Pt.tid, Pt.flat, List.length_append, List.length_singleton]; omega
  | .b n x y, h, hs => by
    have h1 := x.tid_len h.2.1 (Pt.sets_b.1 hs).1
    have h2 := y.tid_len h.2.2 (Pt.sets_b.1 hs).2.1
    have h3 := tidied2_len n.f0 x.tid y.tid
    simp only [Pt.tid, Pt.flat, List.length_append, List.length_singleton]; omega
theorem rdS_mid (pre : List S49) (x : S49) (post : List S49) : rd_T49 (pre ++ x :: post) ((pre.length : Nat) : Int) = x := by
  rw [rdS_I _ _ (by simp)]; simp
/-- How many marks a list takes. -/
def totRe : List S49 → Int
  | [] => 0
  | x :: l => 1 + (x.f1.length : Int) + totRe l
theorem totRe_pos : ∀ l : List S49, 0 ≤ totRe l
  | [] => Int.le_refl _
  | x :: l => by have := totRe_pos l; simp only [totRe]; omega
theorem totRe_le (B : Int) : ∀ l : List S49, (∀ x ∈ l, (x.f1.length : Int) ≤ B) → totRe l ≤ (l.length : Int) * (1 + B)
  | [], _ => by simp [totRe]
  | x :: l, h => by
    have h1 := totRe_le B l (fun y hy => h y (List.mem_cons_of_mem _ hy))
    have h2 := h x List.mem_cons_self
    simp only [totRe, List.length_cons]
    rw [show ((l.length + 1 : Nat) : Int) * (1 + B) = (l.length : Int) * (1 + B) + (1 + B) from by rw [Int.natCast_add, Int.add_mul]; simp]
    omega
def markL : Int → List S49 → List S49
  | _, [] => []
  | m, x :: l => ⟨m, iota (m + 1) x.f1.length⟩ :: markL (m + 1 + (x.f1.length : Int)) l
theorem markRe_l : ∀ (l pre : List S49) (m : Int), 0 ≤ m → m + totRe l ≤ 4611686018427387904 → pre.length + l.length ≤ 1000000000 → Ev (fun k => laws_markReS.l0 k (pre ++ l) m ((pre.length : Nat) : Int)) (m + totRe l, pre ++ markL m l)
  | [], pre, m, _, _, _ => by
    refine Ev.step (f := fun _ => some (m, pre)) (fun k => ?_) (by simpa [totRe, markL] using Ev.now (m, pre))
    simp only [laws_markReS.l0, List.append_nil]
    rw [if_neg (by omega)]
  | x :: l, pre, m, h0, h1, h2 => by
    have ht := totRe_pos l
    simp only [totRe] at h1
    simp only [List.length_cons] at h2
    have e1 : wrap64 (m + 1) = m + 1 := wr _ (by omega) (by omega)
    have e2 : wrap64 (((pre.length : Nat) : Int) + 1) = (((pre ++ [(⟨m, iota (m + 1) x.f1.length⟩ : S49)]).length : Nat) : Int) := by rw [wr _ (by omega) (by omega)]; simp
    have ih := markRe_l l (pre ++ [⟨m, iota (m + 1) x.f1.length⟩]) (m + 1 + (x.f1.length : Int)) (by omega) (by omega) (by simp; omega)
    refine Ev.step (f := fun k => (laws_markIntS.f k x.f1 (m + 1)).bind fun q => laws_markReS.l0 k ((pre ++ x :: l).set (((pre.length : Nat) : Int)).toNat ⟨m, q.2⟩) q.1 (((pre ++ [(⟨m, iota (m + 1) x.f1.length⟩ : S49)]).length : Nat) : Int)) (fun k => ?_) (Ev.bind (markIntS_ev x.f1 (m + 1) (by omega) (by omega)) ?_)
    · simp only [laws_markReS.l0]
      rw [if_pos (by simp only [List.length_append, List.length_cons]; omega)]
      (try rw [if_pos (show (0 : Int) ≤ ((pre.length : Nat) : Int) from by omega)])
      rw [rdS_mid, e1, e2]
    · refine Ev.congr (fun k => ?_) (by simpa [totRe, markL, List.append_assoc, Int.add_assoc] using ih)
      simp [List.append_assoc, Int.add_assoc]
theorem markRe_ev (l : List S49) (h1 : l.length ≤ 1000000000) (h2 : totRe l ≤ 2305843009213693952) : Ev (fun k => laws_markReS.f k l 1) (1 + totRe l, markL 1 l) :=
  Ev.congr (fun k => by unfold laws_markReS.f; rfl) (markRe_l l [] 1 (by omega) (by omega) (by simpa using h1))
theorem heldRe_l : ∀ (l pre : List S49) (m : Int), 0 ≤ m → m + totRe l ≤ 4611686018427387904 → pre.length + l.length ≤ 1000000000 → Ev (fun k => laws_heldReS.l0 k (pre ++ markL m l) m ((pre.length : Nat) : Int)) (m + totRe l)
  | [], pre, m, _, _, _ => by
    refine Ev.step (f := fun _ => some m) (fun k => ?_) (by simpa [totRe] using Ev.now m)
    simp only [laws_heldReS.l0, markL, List.append_nil]
    rw [if_neg (by omega)]
  | x :: l, pre, m, h0, h1, h2 => by
    have ht := totRe_pos l
    simp only [totRe] at h1
    simp only [List.length_cons] at h2
    have e1 : wrap64 (m + 1) = m + 1 := wr _ (by omega) (by omega)
    have e2 : wrap64 (((pre.length : Nat) : Int) + 1) = (((pre ++ [(⟨m, iota (m + 1) x.f1.length⟩ : S49)]).length : Nat) : Int) := by rw [wr _ (by omega) (by omega)]; simp
    have ih := heldRe_l l (pre ++ [⟨m, iota (m + 1) x.f1.length⟩]) (m + 1 + (x.f1.length : Int)) (by omega) (by omega) (by simp; omega)
    refine Ev.step (f := fun k => (laws_heldIntS.f k (iota (m + 1) x.f1.length) (m + 1)).bind fun t => if t < 0 then some (-1) else laws_heldReS.l0 k (pre ++ markL m (x :: l)) t (((pre ++ [(⟨m, iota (m + 1) x.f1.length⟩ : S49)]).length : Nat) : Int)) (fun k => ?_) (Ev.bind (heldIntS_ev (m + 1) x.f1.length (by omega) (by omega)) ?_)
    · have er : rd_T49 (pre ++ markL m (x :: l)) ((pre.length : Nat) : Int) = ⟨m, iota (m + 1) x.f1.length⟩ := rdS_mid pre _ _
      simp only [laws_heldReS.l0]
      rw [if_pos (by simp only [markL, List.length_append, List.length_cons]; omega)]
      (try rw [if_pos (show (0 : Int) ≤ ((pre.length : Nat) : Int) from by omega)])
      rw [er, if_pos rfl, e1, e2]
    · refine Ev.congr (f := fun k => laws_heldReS.l0 k (pre ++ [(⟨m, iota (m + 1) x.f1.length⟩ : S49)] ++ markL (m + 1 + (x.f1.length : Int)) l) (m + 1 + (x.f1.length : Int)) (((pre ++ [(⟨m, iota (m + 1) x.f1.length⟩ : S49)]).length : Nat) : Int)) (fun k => ?_) (by simpa [totRe, Int.add_assoc] using ih)
      rw [if_neg (by omega)]
      simp [markL, List.append_assoc]
theorem heldRe_ev (l : List S49) (h1 : l.length ≤ 1000000000) (h2 : totRe l ≤ 2305843009213693952) : Ev (fun k => laws_heldReS.f k (markL 1 l) 1) (1 + totRe l) :=
  Ev.congr (fun k => by unfold laws_heldReS.f; rfl) (heldRe_l l [] 1 (by omega) (by omega) (by simpa using h1))
theorem clonePat_l (l : List S49) (hl : l.length ≤ 1000000) (hr : ∀ x ∈ l, x.f1.length ≤ 1048576) : ∀ (d j : Nat), j + d = l.length → Ev (fun k => impl_clonePat.l0 k (l.take j) l (l.length : Int) (j : Int)) l := by
  intro d
  induction d with
  | zero =>
    intro j hj
    refine Ev.step (f := fun _ => some l) (fun k => ?_) (Ev.now _)
    simp only [impl_clonePat.l0]
    rw [if_neg (by omega), List.take_of_length_le (by omega)]
  | succ d ih =>
    intro j hj
    have hj' : j < l.length := by omega
    have e1 : wrap64 ((j : Int) + 1) = ((j + 1 : Nat) : Int) := by rw [wr _ (by omega) (by omega)]; omega
    refine Ev.step (f := fun k => impl_clonePat.l0 k (l.take (j + 1)) l (l.length : Int) ((j + 1 : Nat) : Int)) (fun k => ?_) (ih (j + 1) (by omega))
    simp only [impl_clonePat.l0]
    rw [if_pos (by omega), if_pos (by omega), if_pos (by omega), rdS_I l j hj', clone_v _ (by have := hr _ (List.getElem_mem hj'); omega), Option.bind_some, if_pos (by rw [List.length_take]; omega), e1, List.take_succ_eq_append_getElem hj']
theorem clonePat_ev (l : List S49) (hl : l.length ≤ 1000000) (hr : ∀ x ∈ l, x.f1.length ≤ 1048576) : Ev (fun k => impl_clonePat.f k l) l :=
  Ev.congr (fun k => by unfold impl_clonePat.f; simp) (clonePat_l l hl hr l.length 0 (by omega))
theorem goodPat_ev (l : List S49) (hl : l.length ≤ 1000000) (hr : ∀ x ∈ l, x.f1.length ≤ 1048576) : Ev (fun k => impl_goodPat.f k l) (if GoodRV l = true then (l, true) else ([], false)) := by
  unfold impl_goodPat.f
  refine Ev.bind (implGoodRe_ev l (by omega) hr) ?_
  cases hg : GoodRV l with
  | true => exact Ev.congr (fun k => by rw [if_pos rfl]) (Ev.bind (clonePat_ev l hl hr) (Ev.now _))
  | false => exact Ev.congr (f := fun _ => some (([] : List S49), false)) (fun k => by rw [if_neg (by simp)]) (Ev.now _)
theorem sets_len {t : Pt} (h : t.sets) : ∀ x ∈ t.flat, x.f1.length ≤ 1048576 := by
  intro x hx
  have := h x hx
  simp only [setOk, Bool.and_eq_true] at this
  have := (goodS_facts _ this.1).1
  omega
theorem node_v (op : Int) (l : List (List S49)) (h : l.flatten.length ≤ 1000000) : impl_node.f op l = some (l.flatten ++ [nd op]) := by
  unfold impl_node.f impl_Re.f
  rw [if_pos (by omega), Option.bind_some, if_pos (by omega)]
  rfl
def sr (r : Int) : S49 := ⟨2, [r, r]⟩
def litT : List Int → List S49
  | [] => []
  | r :: t => sr r :: nd 3 :: litT t
def litV : List Int → List S49
  | [] => [nd 1]
  | r :: t => sr r :: litT t
theorem litT_len (t : List Int) : (litT t).length = 2 * t.length := by
  induction t with
  | nil => rfl
  | cons r t ih => simp only [litT, List.length_cons, ih]; omega
theorem litV_len (l : List Int) : (litV l).length ≤ 2 * l.length + 1 := by
  cases l with
  | nil => simp [litV]
  | cons r t => simp only [litV, List.length_cons, litT_len]; omega
theorem litT_set (t : List Int) : ∀ x ∈ litT t, x.f1.length ≤ 2 := by
  induction t with
  | nil => simp [litT]
  | cons r t ih =>
    intro x hx
    simp only [litT, List.mem_cons] at hx
    rcases hx with rfl | rfl | hx
    · simp [sr]
    · simp [nd]
    · exact ih x hx
theorem litV_set (l : List Int) : ∀ x ∈ litV l, x.f1.length ≤ 2 := by
  cases l with
  | nil => simp [litV, nd]
  | cons r t =>
    intro x hx
    simp only [litV, List.mem_cons] at hx
    rcases hx with rfl | hx
    · simp [sr]
    · exact litT_set t x hx
theorem rd_mid (pre post : List Int) (r : Int) : rd (pre ++ r :: post) (pre.length : Int) = r := by
  rw [rd_at _ _ (by simp)]
  simp
theorem specLit_l : ∀ (post pre : List Int) (acc : List S49), 0 < pre.length → pre.length + post.length ≤ 1000000 → acc.length + 2 * post.length ≤ 10000000 → Ev (fun k => spec_l5Lit.l0 k acc (pre ++ post) ((pre ++ post).length : Int) (pre.length : Int)) (acc ++ litT post)
  | [], pre, acc, hp, hl, ha => by
    refine Ev.step (f := fun _ => some (acc ++ litT [])) (fun k => ?_) (Ev.now _)
    rw [spec_l5Lit.l0, if_neg (by simp)]
    simp [litT]
  | r :: post, pre, acc, hp, hl, ha => by
    simp only [List.length_cons] at hl ha
    have ih := specLit_l post (pre ++ [r]) (acc ++ [sr r] ++ [nd 3]) (by simp) (by simp; omega) (by simp; omega)
    have ew : wrap64 ((pre.length : Int) + 1) = ((pre ++ [r]).length : Int) := by rw [wr _ (by omega) (by omega)]; simp
    have e1 : pre ++ [r] ++ post = pre ++ r :: post := by simp
    have e2 : acc ++ [sr r] ++ [nd 3] ++ litT post = acc ++ litT (r :: post) := by simp [litT]
    rw [e1, e2] at ih
    have c1 : (pre.length : Int) < ((pre ++ r :: post).length : Int) := by simp; omega
    refine Ev.step (fun k => ?_) ih
    rw [spec_l5Lit.l0, if_pos c1, if_pos (by omega), if_pos c1, if_pos (by omega), rd_mid, Option.bind_some, if_pos (by omega), if_pos (by simp; omega), ew]
    rfl
theorem specLit_ev (l : List Int) (hl : l.length ≤ 1000) : Ev (fun k => spec_l5Lit.f k l) (litV l) := by
  unfold spec_l5Lit.f
  cases l with
  | nil => exact Ev.congr (fun k => by rw [if_pos (by simp)]; rfl) (Ev.now (litV []))
  | cons r t =>
    simp only [List.length_cons] at hl
    refine Ev.congr (fun k => by rw [if_neg (by simp; omega)]) ?_
    have ih := specLit_l t [r] [sr r] (by simp) (by simp only [List.length_cons, List.length_nil]; omega) (by simp only [List.length_cons, List.length_nil]; omega)
    have ew : wrap64 (0 + 1) = (([r] : List Int).length : Int) := by first | rfl | decide | (rw [wr _ (by omega) (by omega)]; simp)
    have c1 : (0 : Int) < ((r :: t).length : Int) := by simp only [List.length_cons]; omega
    refine Ev.step (fun k => ?_) ih
    rw [spec_l5Lit.l0, if_pos c1, if_pos (by omega), if_pos c1, if_pos (by simp), Option.bind_some, if_neg (by omega), ew]
    rfl
/-- What behindEach makes of one rune's patterns. -/
theorem behind_l : ∀ (post pre : List Int) (acc : List S49), pre.length + post.length ≤ 1000000 → acc.length + 2 * post.length ≤ 900000 → Ev (fun k => impl_behindEach.l0 k acc ((pre ++ post).map fun r => [sr r]) (((pre ++ post).map fun r => [sr r]).length : Int) (pre.length : Int)) (acc ++ litT post)
  | [], pre, acc, hl, ha => by
    refine Ev.step (f := fun _ => some (acc ++ litT [])) (fun k => ?_) (Ev.now _)
    rw [impl_behindEach.l0, if_neg (by simp)]
    simp [litT]
  | r :: post, pre, acc, hl, ha => by
    simp only [List.length_cons] at hl ha
    have ih := behind_l post (pre ++ [r]) (acc ++ [sr r] ++ [nd 3]) (by simp; omega) (by simp; omega)
    have ew : wrap64 ((pre.length : Int) + 1) = ((pre ++ [r]).length : Int) := by rw [wr _ (by omega) (by omega)]; simp
    have e1 : pre ++ [r] ++ post = pre ++ r :: post := by simp
    have e2 : acc ++ [sr r] ++ [nd 3] ++ litT post = acc ++ litT (r :: post) := by simp [litT]
    rw [e1, e2] at ih
    have c1 : (pre.length : Int) < (((pre ++ r :: post).map fun r => [sr r]).length : Int) := by simp; omega
    have er : rd_L4 ((pre ++ r :: post).map fun r => [sr r]) (pre.length : Int) = [sr r] := by unfold rd_L4; simp [List.getD_eq_getElem?_getD]
    refine Ev.step (fun k => ?_) ih
    rw [impl_behindEach.l0, if_pos c1, if_pos (by omega), if_pos c1, er, node_v _ _ (by simp; omega), Option.bind_some, ew]
    simp
theorem behind_ev (l : List Int) (hl : l.length ≤ 1000) : Ev (fun k => impl_behindEach.f k (l.map fun r => [sr r])) (litV l) := by
  unfold impl_behindEach.f
  cases l with
  | nil => exact Ev.congr (fun k => by rw [if_pos (by simp)]; rfl) (Ev.now (litV []))
  | cons r t =>
    simp only [List.length_cons] at hl
    have ih := behind_l t [] [sr r] (by simp only [List.length_nil]; omega) (by simp only [List.length_cons, List.length_nil]; omega)
    refine Ev.congr (fun k => ?_) ih
    rw [if_neg (by simp only [List.length_map, List.length_cons]; omega), if_pos (by simp only [List.length_map, List.length_cons]; omega), if_pos (by simp only [List.length_map, List.length_cons]; omega)]
    rfl
theorem implLit_l : ∀ (post pre : List Int), pre.length + post.length ≤ 1000 → ∀ R, Ev (fun k => (impl_behindEach.f k ((pre ++ post).map fun r => [sr r])).bind fun t => (impl_goodPat.f k t).bind fun b => some (b.1, b.2)) R → Ev (fun k => impl_LitRe.l0 k (pre.map fun r => [sr r]) (pre ++ post) ((pre ++ post).length : Int) (pre.length : Int)) R
  | [], pre, hl, R, h => by
    refine Ev.step (fun k => ?_) h
    rw [impl_LitRe.l0, if_neg (by simp), List.append_nil]
  | r :: post, pre, hl, R, h => by
    simp only [List.length_cons] at hl
    have e1 : pre ++ [r] ++ post = pre ++ r :: post := by simp
    have ih := implLit_l post (pre ++ [r]) (by simp; omega) R (by rw [e1]; exact h)
    have ew : wrap64 ((pre.length : Int) + 1) = ((pre ++ [r]).length : Int) := by rw [wr _ (by omega) (by omega)]; simp
    rw [e1] at ih
    have c1 : (pre.length : Int) < ((pre ++ r :: post).length : Int) := by simp; omega
    have e3 : impl_oneRune.f r = some [sr r] := rfl
    refine Ev.step (fun k => ?_) ih
    rw [impl_LitRe.l0, if_pos c1, if_pos (by omega), if_pos c1, rd_mid, e3, Option.bind_some, if_pos (by simp; omega), ew]
    simp
theorem litRe_both (l : List Int) (hl : l.length ≤ 1048576) : ∃ R : List S49 × Bool, (R.1.length ≤ 1000 ∧ ∀ x ∈ R.1, x.f1.length ≤ 1048576) ∧ Ev (fun k => spec_LitRe.f k l) R ∧ Ev (fun k => impl_LitRe.f k l) R := by
  have hs := specAllRunes_ev l (by omega)
  have hi : Ev (fun _ => impl_areRunes.f l 40) (l.all isR && decide ((l.length : Int) ≤ 40)) := by unfold impl_areRunes.f; rw [areRunesV_eq]; exact Ev.now _
  by_cases h40 : l.length ≤ 40
  · cases ha : l.all isR with
    | false =>
      rw [ha, Bool.false_and] at hs hi
      refine ⟨([], false), ⟨by simp, by simp⟩, ?_, ?_⟩
      · unfold spec_LitRe.f
        exact Ev.bind hs (Ev.congr (fun k => by rw [if_neg (by simp)]) (Ev.now _))
      · unfold impl_LitRe.f
        exact Ev.bind hi (Ev.congr (fun k => by rw [if_neg (by simp)]) (Ev.now _))
    | true =>
      rw [ha, Bool.true_and, decide_eq_true (by omega)] at hs hi
      have hv := litV_len l
      have hset : ∀ x ∈ litV l, x.f1.length ≤ 1048576 := fun x hx => by have := litV_set l x hx; omega
      have hg := specGoodRe_ev (litV l) (by omega) hset
      have hp := goodPat_ev (litV l) (by omega) hset
      have hsl := specLit_ev l (by omega)
      refine ⟨if GoodRV (litV l) = true then (litV l, true) else ([], false), ?_, ?_, ?_⟩
      · split
        · exact ⟨by simp only; omega, hset⟩
        · exact ⟨by simp, by simp⟩
      · unfold spec_LitRe.f
        refine Ev.bind hs (Ev.congr (fun k => by rw [if_pos rfl, if_neg (by omega)]) (Ev.bind hsl (Ev.bind hg ?_)))
        cases GoodRV (litV l) with
        | false => exact Ev.congr (fun k => by rw [if_neg (by simp)]) (by simpa using Ev.now (([] : List S49), false))
        | true => exact Ev.congr (fun k => by rw [if_pos rfl]) (Ev.bind hsl (by simpa using Ev.now (litV l, true)))
      · unfold impl_LitRe.f
        refine Ev.bind hi (Ev.congr (fun k => by rw [if_pos rfl]) ?_)
        exact implLit_l l [] (by simp; omega) _ (Ev.bind (behind_ev l (by omega)) (Ev.bind hp (Ev.now _)))
  · refine ⟨([], false), ⟨by simp, by simp⟩, ?_, ?_⟩
    · unfold spec_LitRe.f
      refine Ev.bind hs ?_
      split
      · exact Ev.congr (fun k => by rw [if_pos (by omega)]) (Ev.now _)
      · exact Ev.now _
    · unfold impl_LitRe.f
      rw [show (l.all isR && decide ((l.length : Int) ≤ 40)) = false from by rw [decide_eq_false (by omega), Bool.and_false]] at hi
      exact Ev.bind hi (Ev.congr (fun k => by rw [if_neg (by simp)]) (Ev.now _))
theorem FnExactLitRe (l : List Int) (hl : l.length ≤ 9223372036854775807) : ∃ k, laws_FnExactLitRe.f k l = some true := by
  refine Ev.rounds (r := true) ?_
  unfold laws_FnExactLitRe.f
  by_cases h : 1048576 < (l.length : Int)
  · exact Ev.congr (fun k => by rw [if_pos h]) (Ev.now true)
  · have m1 : l.length ≤ 1048576 := by omega
    obtain ⟨R, ⟨r1, r2⟩, cs, ci⟩ := litRe_both l m1
    have tr := totRe_le 1048576 R.1 (fun x hx => by have := r2 x hx; omega)
    have pr := totRe_pos R.1
    refine Ev.congr (fun k => by rw [if_neg h]) (Ev.bind (toIntS_ev l (by omega)) (Ev.bind cs (Ev.bind ci ?_)))
    refine Ev.bind (eqReS_ev R.1 (by omega) r2) (Ev.bind (eqIntS_ev l l (by omega)) (Ev.bind (markIntS_ev l 1 (by omega) (by omega)) (Ev.bind (markRe_ev R.1 (by omega) (by omega)) (Ev.bind (heldRe_ev R.1 (by omega) (by omega)) ?_))))
    exact Ev.congr (fun k => by rw [if_pos rfl, if_pos (by simp), if_pos rfl, if_neg (by simp only; omega), if_neg (by omega), if_pos rfl]) (Ev.now true)

end Go.Proofs.Ytlmpeaelpchokaa.Pure
