/-
  For every input the law FnExactRunDfa returns true; no condition.
-/
import Derived.Test.YtaeaeejfaffbpaaHFnExactRunDfax12
namespace Go.Proofs.Ytaeaeejfaffbpaa.Pure
open Go.RowKit Go.Proofs.Ytaeaeejfaffbpaa.HFnExactRunDfa Go.Proofs.YtaeaeejfaffbpaaW.PrintWords Go.Proofs.YtaeaeejfaffbpaaW.PrintLast
set_option linter.unusedSimpArgs false
set_option linter.unusedVariables false
theorem wr (i : Int) (h0 : -9223372036854775808 ≤ i) (h1 : i ≤ 9223372036854775807) : wrap64 i = i := by unfold wrap64; omega

theorem rd_nat (l : List Int) (j : Nat) : rd l (j : Int) = l.getD j 0 := by unfold rd; simp

theorem getD_at (l : List Int) (j : Nat) (h : j < l.length) : l.getD j 0 = l[j] := by simp [List.getD_eq_getElem?_getD, h]

theorem rd_at (l : List Int) (j : Nat) (h : j < l.length) : rd l (j : Int) = l[j] := by rw [rd_nat, getD_at l j h]

theorem drop_at (l : List Int) (j : Nat) (h : j < l.length) : l.drop j = l[j] :: l.drop (j + 1) := List.drop_eq_getElem_cons h

theorem toIntS_l (l : List Int) (hl : l.length ≤ 17592186044416) : ∀ (d j : Nat) (o : List Int), j + d = l.length → o.length = l.length → (∀ i, i < j → o.getD i 0 = l.getD i 0) → Ev (fun k => laws_toIntS.l0 k l o (j : Int)) l := by
  intro d
  induction d with
  | zero =>
    intro j o hj ho he
    refine Ev.step (f := fun _ => some l) (fun k => ?_) (Ev.now l)
    simp only [laws_toIntS.l0]
    rw [if_neg (by omega)]
    congr 1
    refine List.ext_getElem (by omega) fun i h1 h2 => ?_
    have := he i (by omega)
    rwa [getD_at o i h1, getD_at l i h2] at this
  | succ d ih =>
    intro j o hj ho he
    refine Ev.step (f := fun k => laws_toIntS.l0 k l (o.set j (l.getD j 0)) ((j + 1 : Nat) : Int)) (fun k => ?_) (ih (j + 1) _ (by omega) (by rw [List.length_set]; exact ho) fun i hi => ?_)
    · simp only [laws_toIntS.l0]
      rw [if_pos (by omega), if_pos (by omega), if_pos (by omega), wr _ (by omega) (by omega), rd_nat]
      simp
    · by_cases e : i = j
      · subst e
        rw [getD_at _ _ (by rw [List.length_set]; omega)]
        simp
      · rw [← he i (by omega)]
        simp [List.getD_eq_getElem?_getD, List.getElem?_set, Ne.symm e]

theorem toIntS_ev (l : List Int) (hl : l.length ≤ 17592186044416) : Ev (fun k => laws_toIntS.f k l) l := by
  refine Ev.congr (f := fun k => laws_toIntS.l0 k l (List.replicate l.length 0) ((0 : Nat) : Int)) (fun k => ?_) (toIntS_l l hl l.length 0 _ (by omega) (by simp) (fun i hi => by omega))
  unfold laws_toIntS.f
  rw [if_pos (by omega), if_pos (by omega)]
  simp

theorem eqIntS_l (a b : List Int) (hab : a.length = b.length) (hl : a.length ≤ 17592186044416) : ∀ (d j : Nat), j + d = a.length → a.take j = b.take j → Ev (fun k => laws_eqIntS.l0 k a b (j : Int)) (decide (a = b)) := by
  intro d
  induction d with
  | zero =>
    intro j hj ht
    refine Ev.step (f := fun _ => some (decide (a = b))) (fun k => ?_) (Ev.now _)
    simp only [laws_eqIntS.l0]
    rw [if_neg (by omega)]
    rw [List.take_of_length_le (by omega), List.take_of_length_le (by omega)] at ht
    simp [ht]
  | succ d ih =>
    intro j hj ht
    by_cases e : a[j]'(by omega) = b[j]'(by omega)
    · refine Ev.step (f := fun k => laws_eqIntS.l0 k a b ((j + 1 : Nat) : Int)) (fun k => ?_) (ih (j + 1) (by omega) ?_)
      · simp only [laws_eqIntS.l0]
        rw [if_pos (by omega), if_pos (by omega), if_pos (by omega), rd_at a j (by omega), rd_at b j (by omega), if_pos e, wr _ (by omega) (by omega)]
        simp
      · rw [List.take_succ_eq_append_getElem (by omega), List.take_succ_eq_append_getElem (by omega), ht, e]
    · refine Ev.step (f := fun _ => some (decide (a = b))) (fun k => ?_) (Ev.now _)
      simp only [laws_eqIntS.l0]
      rw [if_pos (by omega), if_pos (by omega), if_pos (by omega), rd_at a j (by omega), rd_at b j (by omega), if_neg e]
      have : ¬ a = b := fun h => e (by subst h; rfl)
      simp [this]

theorem eqIntS_ev (a b : List Int) (hl : a.length ≤ 17592186044416) : Ev (fun k => laws_eqIntS.f k a b) (decide (a = b)) := by
  by_cases h : a.length = b.length
  · refine Ev.congr (f := fun k => laws_eqIntS.l0 k a b ((0 : Nat) : Int)) (fun k => ?_) (eqIntS_l a b h hl a.length 0 (by omega) (by simp))
    unfold laws_eqIntS.f
    rw [if_pos (by omega)]
    simp
  · refine Ev.congr (f := fun _ => some (decide (a = b))) (fun k => ?_) (Ev.now _)
    unfold laws_eqIntS.f
    rw [if_neg (by omega)]
    have : ¬ a = b := fun e => h (by rw [e])
    simp [this]

/-- Within bounds. -/
def inB (lo hi n : Int) : Bool := decide (lo ≤ n ∧ n ≤ hi)
theorem inB_iff (lo hi n : Int) : inB lo hi n = true ↔ lo ≤ n ∧ n ≤ hi := by simp [inB]

theorem in_s (a b c : Int) : spec_l1In.f a b c = some (inB b c a) := by
  unfold spec_l1In.f inB
  by_cases h : a ≥ b
  · rw [if_pos h]; simp [show b ≤ a from h]
  · rw [if_neg h]; simp [show ¬ b ≤ a from h]

theorem in_i (a b c : Int) : impl_inRange.f a b c = some (inB b c a) := by
  unfold impl_inRange.f inB
  by_cases h : b ≤ a
  · rw [if_pos h]; simp [h]
  · rw [if_neg h]; simp [h]

def isR (a : Int) : Bool := inB 0 1114111 a && !inB 55296 57343 a
theorem gr_s (a : Int) : spec_GoodRune.f a = some (isR a) := by
  unfold spec_GoodRune.f isR
  rw [in_s, in_s]
  simp only [Option.bind_some]
  cases inB 0 1114111 a <;> simp

theorem gr_i (a : Int) : impl_GoodRune.f a = some (isR a) := by
  unfold impl_GoodRune.f isR
  rw [in_i, in_i]
  simp only [Option.bind_some]
  cases inB 0 1114111 a <;> simp

theorem specAllRunes_l (l : List Int) (hl : l.length ≤ 17592186044416) : ∀ (d j : Nat), j + d = l.length → Ev (fun k => spec_l1AllRunes.l0 k l l (l.length : Int) (j : Int)) ((l.drop j).all isR && decide (l.length ≤ 1000)) := by
  intro d
  induction d with
  | zero =>
    intro j hj
    refine Ev.step (f := fun _ => some ((l.drop j).all isR && decide (l.length ≤ 1000))) (fun k => ?_) (Ev.now _)
    simp only [spec_l1AllRunes.l0]
    rw [if_neg (by omega), List.drop_of_length_le (by omega)]
    simp
    omega
  | succ d ih =>
    intro j hj
    rw [drop_at l j (by omega), List.all_cons]
    cases e : isR (l[j]'(by omega)) with
    | true =>
      refine Ev.step (f := fun k => spec_l1AllRunes.l0 k l l (l.length : Int) ((j + 1 : Nat) : Int)) (fun k => ?_) (by simpa using ih (j + 1) (by omega))
      simp only [spec_l1AllRunes.l0]
      rw [if_pos (by omega), if_pos (by omega), if_pos (by omega), rd_at l j (by omega), gr_s, wr _ (by omega) (by omega), e]
      simp
    | false =>
      refine Ev.step (f := fun _ => some false) (fun k => ?_) (by simpa using Ev.now false)
      simp only [spec_l1AllRunes.l0]
      rw [if_pos (by omega), if_pos (by omega), if_pos (by omega), rd_at l j (by omega), gr_s, e]
      simp

theorem specAllRunes_ev (l : List Int) (hl : l.length ≤ 17592186044416) : Ev (fun k => spec_l1AllRunes.f k l) (l.all isR && decide (l.length ≤ 1000)) :=
  Ev.congr (fun k => by unfold spec_l1AllRunes.f; rfl) (by simpa using specAllRunes_l l hl l.length 0 (by omega))

theorem goodRuneV_isR (r : Int) : goodRuneV r = isR r := by
  unfold goodRuneV isR inB
  rfl

theorem areRunesV_eq (l : List Int) (m : Int) : areRunesV l m = (l.all isR && decide ((l.length : Int) ≤ m)) := by
  unfold areRunesV
  have e : (!l.any badRuneV) = l.all isR := by
    rw [List.not_any_eq_all_not]
    congr 1
    funext x
    unfold badRuneV
    rw [Bool.not_not, goodRuneV_isR]
  rw [e]
  by_cases h : (l.length : Int) ≤ m
  · simp [h]
  · simp [h]

theorem l1All_l (lo hi : Int) (l : List Int) (hl : l.length ≤ 17592186044416) : ∀ (d j : Nat), j + d = l.length → Ev (fun k => spec_l1All.l0 k lo hi l (l.length : Int) (j : Int)) ((l.drop j).all (inB lo hi)) := by
  intro d
  induction d with
  | zero =>
    intro j hj
    refine Ev.step (f := fun _ => some ((l.drop j).all (inB lo hi))) (fun k => ?_) (Ev.now _)
    simp only [spec_l1All.l0]
    rw [if_neg (by omega), List.drop_of_length_le (by omega)]
    rfl
  | succ d ih =>
    intro j hj
    cases e : inB lo hi (l[j]'(by omega)) with
    | true =>
      refine Ev.step (f := fun k => spec_l1All.l0 k lo hi l (l.length : Int) ((j + 1 : Nat) : Int)) (fun k => ?_) ?_
      · simp only [spec_l1All.l0]
        rw [if_pos (by omega), if_pos (by omega), if_pos (by omega), rd_at l j (by omega), in_s, wr _ (by omega) (by omega), e]
        simp
      · rw [drop_at l j (by omega), List.all_cons, e, Bool.true_and]
        exact ih (j + 1) (by omega)
    | false =>
      refine Ev.step (f := fun _ => some ((l.drop j).all (inB lo hi))) (fun k => ?_) (Ev.now _)
      simp only [spec_l1All.l0]
      rw [if_pos (by omega), if_pos (by omega), if_pos (by omega), rd_at l j (by omega), in_s, e, drop_at l j (by omega), List.all_cons, e]
      simp

theorem l1All_ev (l : List Int) (hl : l.length ≤ 17592186044416) (lo hi : Int) : Ev (fun k => spec_l1All.f k l lo hi) (l.all (inB lo hi)) :=
  Ev.congr (fun k => by unfold spec_l1All.f; rfl) (l1All_l lo hi l hl l.length 0 (by omega))

theorem rdL_at (l : List (List Int)) (j : Nat) (h : j < l.length) : rd_L1 l (j : Int) = l[j] := by unfold rd_L1; simp [List.getD_eq_getElem?_getD, h]
theorem rdB_at (l : List Bool) (j : Nat) (h : j < l.length) : rdOf false l (j : Int) = l[j] := by unfold rdOf; simp [List.getD_eq_getElem?_getD, h]

theorem toIntSS_l (l : List (List Int)) (hl : l.length ≤ 1099511627776) (hr : ∀ r ∈ l, r.length ≤ 1099511627776) : ∀ (d j : Nat) (o : List (List Int)), j + d = l.length → o.length = l.length → (∀ i, i < j → o.getD i [] = l.getD i []) → Ev (fun k => laws_toIntSS.l0 k l o (j : Int)) l := by
  intro d
  induction d with
  | zero =>
    intro j o hj ho he
    refine Ev.step (f := fun _ => some l) (fun k => ?_) (Ev.now l)
    simp only [laws_toIntSS.l0]
    rw [if_neg (by omega)]
    congr 1
    refine List.ext_getElem (by omega) fun i h1 h2 => ?_
    have := he i (by omega)
    simpa [List.getD_eq_getElem?_getD, h1, h2] using this
  | succ d ih =>
    intro j o hj ho he
    have hj' : j < l.length := by omega
    refine Ev.step (f := fun k => (laws_toIntS.f k (l[j]'(by omega))).bind fun t => laws_toIntSS.l0 k l (o.set j t) ((j + 1 : Nat) : Int)) (fun k => ?_) (Ev.bind (toIntS_ev (l[j]'(by omega)) (by have := hr _ (List.getElem_mem hj'); omega)) (ih (j + 1) (o.set j (l[j]'(by omega))) (by omega) (by rw [List.length_set]; exact ho) fun i hi => ?_))
    · simp only [laws_toIntSS.l0]
      rw [if_pos (by omega), if_pos (by omega), rdL_at l j (by omega), wr ((j : Int) + 1) (by omega) (by omega)]
      congr 1
      funext t
      rw [if_pos (by omega)]
      simp
    · by_cases e : i = j
      · subst e
        simp [List.getD_eq_getElem?_getD, List.getElem?_set, ho, hj']
      · rw [← he i (by omega)]
        simp [List.getD_eq_getElem?_getD, List.getElem?_set, Ne.symm e]
theorem toIntSS_ev (l : List (List Int)) (hl : l.length ≤ 1099511627776) (hr : ∀ r ∈ l, r.length ≤ 1099511627776) : Ev (fun k => laws_toIntSS.f k l) l := by
  refine Ev.congr (f := fun k => laws_toIntSS.l0 k l (List.replicate l.length []) ((0 : Nat) : Int)) (fun k => ?_) (toIntSS_l l hl hr l.length 0 _ (by omega) (by simp) (fun i hi => by omega))
  unfold laws_toIntSS.f
  rw [if_pos (by omega), if_pos (by omega)]
  simp

theorem eqIntSS_l (a : List (List Int)) (hl : a.length ≤ 1099511627776) (hr : ∀ r ∈ a, r.length ≤ 1099511627776) : ∀ (d j : Nat), j + d = a.length → Ev (fun k => laws_eqIntSS.l0 k a a (j : Int)) true := by
  intro d
  induction d with
  | zero =>
    intro j hj
    refine Ev.step (f := fun _ => some true) (fun k => ?_) (Ev.now _)
    simp only [laws_eqIntSS.l0]
    rw [if_neg (by omega)]
  | succ d ih =>
    intro j hj
    have hj' : j < a.length := by omega
    refine Ev.step (f := fun k => (laws_eqIntS.f k (a[j]'(by omega)) (a[j]'(by omega))).bind fun t => if t = true then laws_eqIntSS.l0 k a a ((j + 1 : Nat) : Int) else some false) (fun k => ?_) (Ev.bind (eqIntS_ev (a[j]'(by omega)) (a[j]'(by omega)) (by have := hr _ (List.getElem_mem hj'); omega)) ?_)
    · simp only [laws_eqIntSS.l0]
      rw [if_pos (by omega), if_pos (by omega), if_pos (by omega), rdL_at a j (by omega), wr ((j : Int) + 1) (by omega) (by omega)]
      rfl
    · exact Ev.congr (fun k => by rw [if_pos (by simp)]) (ih (j + 1) (by omega))
theorem eqIntSS_ev (a : List (List Int)) (hl : a.length ≤ 1099511627776) (hr : ∀ r ∈ a, r.length ≤ 1099511627776) : Ev (fun k => laws_eqIntSS.f k a a) true :=
  Ev.congr (fun k => by unfold laws_eqIntSS.f; rw [if_pos rfl]; rfl) (eqIntSS_l a hl hr a.length 0 (by omega))

theorem szIntS_v (l : List Int) (b : Int) (h0 : 0 ≤ b) (h1 : b ≤ 1048576) (hl : l.length ≤ 9223372036854775807) : laws_szIntS.f l b = some (if b - (l.length : Int) < 0 then -1 else b - (l.length : Int)) := by
  unfold laws_szIntS.f
  rw [wr _ (by omega) (by omega)]
  split <;> rfl
def szRows : Int → List (List Int) → Int
  | b, r :: t => if b - (r.length : Int) < 0 then -1 else szRows (b - (r.length : Int)) t
  | b, [] => b
theorem szRows_ok (l : List (List Int)) : ∀ b, 0 ≤ b → szRows b l ≤ b ∧ (szRows b l < 0 ∨ (∀ r ∈ l, (r.length : Int) ≤ b)) := by
  induction l with
  | nil => intro b _; exact ⟨Int.le_refl _, Or.inr (fun r h => by cases h)⟩
  | cons x t ih =>
    intro b hb
    rw [szRows]
    by_cases c : b - (x.length : Int) < 0
    · rw [if_pos c]; exact ⟨by omega, Or.inl (by omega)⟩
    · rw [if_neg c]
      obtain ⟨h1, h2⟩ := ih (b - (x.length : Int)) (by omega)
      refine ⟨by omega, h2.imp id fun h r hr => ?_⟩
      rcases List.mem_cons.1 hr with rfl | hr
      · omega
      · have := h r hr; omega
theorem szIntSS_l (l : List (List Int)) (hl : l.length ≤ 1048576) (hr : ∀ r ∈ l, r.length ≤ 9223372036854775807) : ∀ (d j : Nat) (b : Int), j + d = l.length → 0 ≤ b → b ≤ 1048576 → Ev (fun k => laws_szIntSS.l0 k l b (j : Int)) (szRows b (l.drop j)) := by
  intro d
  induction d with
  | zero =>
    intro j b hj h0 h1
    refine Ev.step (f := fun _ => some b) (fun k => ?_) (by rw [List.drop_of_length_le (by omega)]; exact Ev.now _)
    simp only [laws_szIntSS.l0]
    rw [if_neg (by omega)]
  | succ d ih =>
    intro j b hj h0 h1
    have hj' : j < l.length := by omega
    rw [List.drop_eq_getElem_cons hj', szRows]
    refine Ev.step (f := fun k => (laws_szIntS.f (l[j]'hj') b).bind fun t => if t < 0 then some (-1) else laws_szIntSS.l0 k l t ((j + 1 : Nat) : Int)) (fun k => ?_) ?_
    · simp only [laws_szIntSS.l0]
      rw [if_pos (by omega), if_pos (by omega), rdL_at l j hj', wr ((j : Int) + 1) (by omega) (by omega)]
      rfl
    · rw [szIntS_v _ _ h0 h1 (hr _ (List.getElem_mem hj'))]
      refine Ev.bind (Ev.now _) ?_
      by_cases c : b - ((l[j]'hj').length : Int) < 0
      · rw [if_pos c, if_pos c]
        exact Ev.congr (fun k => by rw [if_pos (by omega)]) (Ev.now _)
      · rw [if_neg c, if_neg c]
        exact Ev.congr (fun k => by rw [if_neg c]) (ih (j + 1) _ (by omega) (by omega) (by omega))
theorem szIntSS_ev (l : List (List Int)) (b : Int) (h0 : 0 ≤ b) (h1 : b ≤ 1048576) (hl : l.length ≤ 9223372036854775807) (hr : ∀ r ∈ l, r.length ≤ 9223372036854775807) : ∃ v, Ev (fun k => laws_szIntSS.f k l b) v ∧ v ≤ b ∧ (v < 0 ∨ ((l.length : Int) ≤ b ∧ ∀ r ∈ l, (r.length : Int) ≤ b)) := by
  unfold laws_szIntSS.f
  rw [wr (b - (l.length : Int)) (by omega) (by omega)]
  by_cases c : b - (l.length : Int) < 0
  · exact ⟨-1, Ev.congr (fun k => by rw [if_pos c]) (Ev.now _), by omega, Or.inl (by omega)⟩
  · obtain ⟨g1, g2⟩ := szRows_ok l (b - (l.length : Int)) (by omega)
    refine ⟨szRows (b - (l.length : Int)) l, Ev.congr (fun k => by rw [if_neg c]; rfl) (szIntSS_l l (by omega) hr l.length 0 _ (by omega) (by omega) (by omega)), by omega, g2.imp id fun h => ⟨by omega, fun r hr => by have := h r hr; omega⟩⟩
theorem toBoolS_l (l : List Bool) (hl : l.length ≤ 1099511627776) : ∀ (d j : Nat) (o : List Bool), j + d = l.length → o.length = l.length → (∀ i, i < j → o.getD i false = l.getD i false) → Ev (fun k => laws_toBoolS.l0 k l o (j : Int)) l := by
  intro d
  induction d with
  | zero =>
    intro j o hj ho he
    refine Ev.step (f := fun _ => some l) (fun k => ?_) (Ev.now l)
    simp only [laws_toBoolS.l0]
    rw [if_neg (by omega)]
    congr 1
    refine List.ext_getElem (by omega) fun i h1 h2 => ?_
    have := he i (by omega)
    simpa [List.getD_eq_getElem?_getD, h1, h2] using this
  | succ d ih =>
    intro j o hj ho he
    have hj' : j < l.length := by omega
    refine Ev.step (f := fun k => laws_toBoolS.l0 k l (o.set j (l[j]'hj')) ((j + 1 : Nat) : Int)) (fun k => ?_) (ih (j + 1) (o.set j (l[j]'hj')) (by omega) (by rw [List.length_set]; exact ho) fun i hi => ?_)
    · simp only [laws_toBoolS.l0]
      rw [if_pos (by omega), if_pos (by omega), if_pos (by omega), rdB_at l j hj', wr ((j : Int) + 1) (by omega) (by omega)]
      simp
    · by_cases e : i = j
      · subst e
        simp [List.getD_eq_getElem?_getD, List.getElem?_set, ho, hj']
      · rw [← he i (by omega)]
        simp [List.getD_eq_getElem?_getD, List.getElem?_set, Ne.symm e]
theorem toBoolS_ev (l : List Bool) (hl : l.length ≤ 1099511627776) : Ev (fun k => laws_toBoolS.f k l) l := by
  refine Ev.congr (f := fun k => laws_toBoolS.l0 k l (List.replicate l.length false) ((0 : Nat) : Int)) (fun k => ?_) (toBoolS_l l hl l.length 0 _ (by omega) (by simp) (fun i hi => by omega))
  unfold laws_toBoolS.f
  rw [if_pos (by omega), if_pos (by omega)]
  simp
theorem eqBoolS_l (a : List Bool) (hl : a.length ≤ 1099511627776) : ∀ (d j : Nat), j + d = a.length → Ev (fun k => laws_eqBoolS.l0 k a a (j : Int)) true := by
  intro d
  induction d with
  | zero =>
    intro j hj
    refine Ev.step (f := fun _ => some true) (fun k => ?_) (Ev.now _)
    simp only [laws_eqBoolS.l0]
    rw [if_neg (by omega)]
  | succ d ih =>
    intro j hj
    refine Ev.step (f := fun k => laws_eqBoolS.l0 k a a ((j + 1 : Nat) : Int)) (fun k => ?_) (ih (j + 1) (by omega))
    simp only [laws_eqBoolS.l0]
    rw [if_pos (by omega), if_pos (by omega), if_pos (by omega), if_neg (by simp), wr ((j : Int) + 1) (by omega) (by omega)]
    rfl
theorem eqBoolS_ev (a : List Bool) (hl : a.length ≤ 1099511627776) : Ev (fun k => laws_eqBoolS.f k a a) true :=
  Ev.congr (fun k => by unfold laws_eqBoolS.f; rw [if_pos rfl]; rfl) (eqBoolS_l a hl a.length 0 (by omega))
theorem szBoolS_v (l : List Bool) (b : Int) (h0 : 0 ≤ b) (h1 : b ≤ 1048576) (hl : l.length ≤ 9223372036854775807) : laws_szBoolS.f l b = some (if b - (l.length : Int) < 0 then -1 else b - (l.length : Int)) := by
  unfold laws_szBoolS.f
  rw [wr _ (by omega) (by omega)]
  split <;> rfl

/-- A machine within bounds. -/
def SmallDfa (c : List Int) (n : List (List Int)) (f : List Bool) : Prop := c.length ≤ 1048576 ∧ n.length ≤ 1048576 ∧ (∀ r ∈ n, r.length ≤ 1048576) ∧ f.length ≤ 1048576
theorem szDfa_ev (c : List Int) (n : List (List Int)) (f : List Bool) (hc : c.length ≤ 9223372036854775807) (hn : n.length ≤ 9223372036854775807) (hr : ∀ r ∈ n, r.length ≤ 9223372036854775807) (hf : f.length ≤ 9223372036854775807) (b : Int) (b0 : 0 ≤ b) (b1 : b ≤ 1048576) : ∃ v, Ev (fun k => laws_szDfa.f k c n f b) v ∧ v ≤ b ∧ (v < 0 ∨ SmallDfa c n f) := by
  unfold laws_szDfa.f
  rw [szIntS_v c b b0 b1 hc]
  by_cases h1 : b - (c.length : Int) < 0
  · exact ⟨-1, Ev.congr (fun k => by rw [if_pos h1, Option.bind_some, if_pos (by omega)]) (Ev.now _), by omega, Or.inl (by omega)⟩
  · rw [if_neg h1]
    obtain ⟨v, e1, e2, e3⟩ := szIntSS_ev n (b - (c.length : Int)) (by omega) (by omega) hn hr
    by_cases h2 : v < 0
    · exact ⟨-1, Ev.congr (fun k => by rw [Option.bind_some, if_neg h1]) (Ev.bind e1 (Ev.congr (fun k => by rw [if_pos h2]) (Ev.now _))), by omega, Or.inl (by omega)⟩
    · obtain ⟨g1, g2⟩ := e3.resolve_left h2
      by_cases h3 : v - (f.length : Int) < 0
      · exact ⟨-1, Ev.congr (fun k => by rw [Option.bind_some, if_neg h1]) (Ev.bind e1 (Ev.congr (fun k => by rw [if_neg h2, szBoolS_v f v (by omega) (by omega) hf, if_pos h3, Option.bind_some, if_pos (by omega)]) (Ev.now _))), by omega, Or.inl (by omega)⟩
      · exact ⟨v - (f.length : Int), Ev.congr (fun k => by rw [Option.bind_some, if_neg h1]) (Ev.bind e1 (Ev.congr (fun k => by rw [if_neg h2, szBoolS_v f v (by omega) (by omega) hf, if_neg h3, Option.bind_some, if_neg h3]) (Ev.now _))), by omega, Or.inr ⟨by omega, by omega, fun r hr => by have := g2 r hr; omega, by omega⟩⟩
theorem toDfa_ev (c : List Int) (n : List (List Int)) (f : List Bool) (h : SmallDfa c n f) : Ev (fun k => laws_toDfa.f k c n f) (c, n, f) := by
  obtain ⟨h1, h2, h3, h4⟩ := h
  unfold laws_toDfa.f
  exact Ev.bind (toIntS_ev c (by omega)) (Ev.bind (toIntSS_ev n (by omega) (fun r hr => by have := h3 r hr; omega)) (Ev.bind (toBoolS_ev f (by omega)) (Ev.now _)))
theorem eqDfa_ev (c : List Int) (n : List (List Int)) (f : List Bool) (h : SmallDfa c n f) : Ev (fun k => laws_eqDfa.f k c n f c n f) true := by
  obtain ⟨h1, h2, h3, h4⟩ := h
  unfold laws_eqDfa.f
  refine Ev.bind (eqIntS_ev c c (by omega)) (Ev.congr (fun k => by rw [if_pos (by simp)]) (Ev.bind (eqIntSS_ev n (by omega) (fun r hr => by have := h3 r hr; omega)) (Ev.congr (fun k => by rw [if_pos rfl]) (Ev.bind (eqBoolS_ev f (by omega)) (Ev.congr (fun k => by rw [if_pos rfl]) (Ev.now _))))))
/-- Rising, behind p (none: the first), within bounds. -/
def ahead : Option Int → Int → Bool
  | none, _ => true
  | some q, x => decide (q < x)
def RisV (lo hi : Int) : Option Int → List Int → Bool
  | _, [] => true
  | p, x :: r => inB lo hi x && ahead p x && RisV lo hi (some x) r
def prev (l : List Int) (j : Nat) : Option Int := if j = 0 then none else some (l.getD (j - 1) 0)
theorem prev_succ (l : List Int) (j : Nat) (h : j < l.length) : prev l (j + 1) = some (l[j]) := by
  unfold prev
  rw [if_neg (by omega), Nat.add_sub_cancel, getD_at l j h]

theorem specRis_l (l : List Int) (lo hi : Int) (hl : l.length ≤ 1099511627776) : ∀ (d j : Nat), j + d = l.length → Ev (fun k => spec_l1Rising.l0 k l lo hi l (l.length : Int) (j : Int)) (RisV lo hi (prev l j) (l.drop j)) := by
  intro d
  induction d with
  | zero =>
    intro j hj
    refine Ev.step (f := fun _ => some true) (fun k => ?_) (by rw [List.drop_of_length_le (by omega)]; exact Ev.now _)
    simp only [spec_l1Rising.l0]
    rw [if_neg (by omega)]
  | succ d ih =>
    intro j hj
    have hj' : j < l.length := by omega
    have e1 : wrap64 ((j : Int) + 1) = ((j + 1 : Nat) : Int) := by rw [wr _ (by omega) (by omega)]; omega
    have ih' := ih (j + 1) (by omega)
    rw [prev_succ l j hj'] at ih'
    rw [drop_at l j hj', RisV]
    refine Ev.step (fun k => by simp only [spec_l1Rising.l0]; rw [if_pos (by omega), if_pos (by omega), if_pos (by omega), rd_at l j hj', in_s, Option.bind_some, e1]) ?_
    cases inB lo hi (l[j]'hj') with
    | false => exact Ev.congr (fun k => by rw [if_neg (by simp)]) (by simpa using Ev.now false)
    | true =>
      by_cases hz : j = 0
      · refine Ev.congr (fun k => by rw [if_pos rfl, if_neg (by omega)]) ?_
        unfold prev
        rw [if_pos hz]
        simpa [ahead] using ih'
      · have e2 : wrap64 ((j : Int) - 1) = ((j - 1 : Nat) : Int) := by rw [wr _ (by omega) (by omega)]; omega
        have ep : prev l j = some (l[j - 1]'(by omega)) := by unfold prev; rw [if_neg hz, getD_at l (j - 1) (by omega)]
        rw [ep]
        refine Ev.congr (fun k => by rw [if_pos rfl, if_pos (by omega), e2, if_pos (by omega), if_pos (by omega), rd_at l (j - 1) (by omega)]) ?_
        by_cases c : l[j - 1]'(by omega) ≥ l[j]'hj'
        · refine Ev.congr (fun k => by rw [if_pos c]) ?_
          rw [show ahead (some (l[j - 1]'(by omega))) (l[j]'hj') = false from decide_eq_false (by omega)]
          simpa using Ev.now false
        · refine Ev.congr (fun k => by rw [if_neg c]) ?_
          rw [show ahead (some (l[j - 1]'(by omega))) (l[j]'hj') = true from decide_eq_true (by omega)]
          simpa using ih'
theorem implRis_l (l : List Int) (lo hi : Int) (hl : l.length ≤ 1099511627776) : ∀ (d j : Nat), j + d = l.length → Ev (fun k => impl_isRising.l0 k l lo hi l (l.length : Int) (j : Int)) (RisV lo hi (prev l j) (l.drop j)) := by
  intro d
  induction d with
  | zero =>
    intro j hj
    refine Ev.step (f := fun _ => some true) (fun k => ?_) (by rw [List.drop_of_length_le (by omega)]; exact Ev.now _)
    simp only [impl_isRising.l0]
    rw [if_neg (by omega)]
  | succ d ih =>
    intro j hj
    have hj' : j < l.length := by omega
    have e1 : wrap64 ((j : Int) + 1) = ((j + 1 : Nat) : Int) := by rw [wr _ (by omega) (by omega)]; omega
    have ih' := ih (j + 1) (by omega)
    rw [prev_succ l j hj'] at ih'
    rw [drop_at l j hj', RisV]
    refine Ev.step (fun k => by simp only [impl_isRising.l0]; rw [if_pos (by omega), if_pos (by omega), if_pos (by omega), rd_at l j hj', in_i, Option.bind_some, e1]) ?_
    cases inB lo hi (l[j]'hj') with
    | false => exact Ev.congr (fun k => by rw [if_neg (by simp)]) (by simpa using Ev.now false)
    | true =>
      by_cases hz : j = 0
      · refine Ev.congr (fun k => by rw [if_pos rfl, if_neg (by omega)]) ?_
        unfold prev
        rw [if_pos hz]
        simpa [ahead] using ih'
      · have e2 : wrap64 ((j : Int) - 1) = ((j - 1 : Nat) : Int) := by rw [wr _ (by omega) (by omega)]; omega
        have ep : prev l j = some (l[j - 1]'(by omega)) := by unfold prev; rw [if_neg hz, getD_at l (j - 1) (by omega)]
        rw [ep]
        refine Ev.congr (fun k => by rw [if_pos rfl, if_pos (by omega), e2, if_pos (by omega), if_pos (by omega), rd_at l (j - 1) (by omega)]) ?_
        by_cases c : l[j - 1]'(by omega) ≥ l[j]'hj'
        · refine Ev.congr (fun k => by rw [if_pos c]) ?_
          rw [show ahead (some (l[j - 1]'(by omega))) (l[j]'hj') = false from decide_eq_false (by omega)]
          simpa using Ev.now false
        · refine Ev.congr (fun k => by rw [if_neg c]) ?_
          rw [show ahead (some (l[j - 1]'(by omega))) (l[j]'hj') = true from decide_eq_true (by omega)]
          simpa using ih'
def risV (l : List Int) (lo hi : Int) : Bool := RisV lo hi none l
theorem specRis_ev (l : List Int) (lo hi : Int) (hl : l.length ≤ 1099511627776) : Ev (fun k => spec_l1Rising.f k l lo hi) (risV l lo hi) :=
  Ev.congr (fun k => by unfold spec_l1Rising.f; rfl) (by simpa [prev, risV] using specRis_l l lo hi hl l.length 0 (by omega))
theorem implRis_ev (l : List Int) (lo hi : Int) (hl : l.length ≤ 1099511627776) : Ev (fun k => impl_isRising.f k l lo hi) (risV l lo hi) :=
  Ev.congr (fun k => by unfold impl_isRising.f; rfl) (by simpa [prev, risV] using implRis_l l lo hi hl l.length 0 (by omega))
/-- Is a machine good? -/
def rowsOk (n : Nat) (s : Int) (l : List (List Int)) : Bool := l.all fun r => decide (r.length = n + 1) && r.all (inB 0 (s - 1))
def GoodD (c : List Int) (n : List (List Int)) (f : List Bool) : Bool :=
  inB 1 60 (n.length : Int) && (decide (f.length = n.length) && (decide (c.length ≤ 40) && (risV c 1 1114111 && rowsOk c.length (n.length : Int) n)))

theorem specRows_l (c : List Int) (n : List (List Int)) (f : List Bool) (h : SmallDfa c n f) : ∀ (d j : Nat), j + d = n.length → Ev (fun k => spec_GoodDfa.l0 k (n.length : Int) n (n.length : Int) (j : Int) c n f) (rowsOk c.length (n.length : Int) (n.drop j)) := by
  obtain ⟨h1, h2, h3, h4⟩ := h
  intro d
  induction d with
  | zero =>
    intro j hj
    refine Ev.step (f := fun _ => some true) (fun k => ?_) (by rw [List.drop_of_length_le (by omega)]; exact Ev.now _)
    simp only [spec_GoodDfa.l0]
    rw [if_neg (by omega)]
  | succ d ih =>
    intro j hj
    have hj' : j < n.length := by omega
    have hr := h3 _ (List.getElem_mem hj')
    have e1 : wrap64 ((j : Int) + 1) = ((j + 1 : Nat) : Int) := by rw [wr _ (by omega) (by omega)]; omega
    have key : rowsOk c.length (n.length : Int) (n.drop j) = (decide ((n[j]'hj').length = c.length + 1) && (n[j]'hj').all (inB 0 ((n.length : Int) - 1)) && rowsOk c.length (n.length : Int) (n.drop (j + 1))) := by
      rw [List.drop_eq_getElem_cons hj']; rfl
    rw [key]
    refine Ev.step (fun k => by simp only [spec_GoodDfa.l0]; rw [if_pos (by omega), if_pos (by omega), if_pos (by omega), rdL_at n j hj', wr ((c.length : Int) + 1) (by omega) (by omega), wr ((n.length : Int) - 1) (by omega) (by omega), e1]) ?_
    by_cases c1 : (n[j]'hj').length = c.length + 1
    · refine Ev.congr (fun k => by rw [if_pos (by omega)]) (Ev.bind (l1All_ev (n[j]'hj') (by omega) 0 ((n.length : Int) - 1)) ?_)
      rw [decide_eq_true c1]
      cases (n[j]'hj').all (inB 0 ((n.length : Int) - 1)) with
      | false => exact Ev.congr (fun k => by rw [if_neg (by simp)]) (by simpa using Ev.now false)
      | true => exact Ev.congr (fun k => by rw [if_pos rfl]) (by simpa using ih (j + 1) (by omega))
    · rw [decide_eq_false c1]
      exact Ev.congr (fun k => by rw [if_neg (by omega)]) (by simpa using Ev.now false)

theorem specGoodD_ev (c : List Int) (n : List (List Int)) (f : List Bool) (h : SmallDfa c n f) : Ev (fun k => spec_GoodDfa.f k c n f) (GoodD c n f) := by
  have h' := h
  obtain ⟨h1, h2, h3, h4⟩ := h
  have bad : Ev (fun k => spec_GoodDfa.j0 k (n.length : Int) true c n f) false := Ev.step (f := fun _ => some false) (fun k => by simp [spec_GoodDfa.j0]) (Ev.now _)
  unfold spec_GoodDfa.f GoodD
  rw [in_s]
  refine Ev.bind (Ev.now _) ?_
  cases inB 1 60 (n.length : Int) with
  | false => exact Ev.congr (fun k => by rw [if_neg (by simp)]) (by simpa using bad)
  | true =>
    refine Ev.congr (fun k => by rw [if_pos rfl]) ?_
    rw [Bool.true_and]
    by_cases c1 : f.length = n.length
    · refine Ev.congr (fun k => by rw [if_pos (by omega)]) ?_
      rw [decide_eq_true c1, Bool.true_and]
      by_cases c2 : c.length ≤ 40
      · refine Ev.congr (fun k => by rw [if_neg (by omega)]) (Ev.bind (specRis_ev c 1 1114111 (by omega)) ?_)
        rw [decide_eq_true c2, Bool.true_and]
        cases risV c 1 1114111 with
        | false => simpa using bad
        | true =>
          refine Ev.step (f := fun k => spec_GoodDfa.l0 k (n.length : Int) n (n.length : Int) ((0 : Nat) : Int) c n f) (fun k => by simp [spec_GoodDfa.j0]) ?_
          simpa using specRows_l c n f h' n.length 0 (by omega)
      · rw [decide_eq_false c2, Bool.false_and]
        exact Ev.congr (fun k => by rw [if_pos (by omega)]) bad
    · rw [decide_eq_false c1, Bool.false_and]
      exact Ev.congr (fun k => by rw [if_neg (by omega)]) bad

theorem badRow_eq (n : Nat) (s : Int) (hs : 0 ≤ s ∧ s ≤ 1048576) (hn : n ≤ 1048576) (l : List (List Int)) : (!l.any (badRowV n s)) = rowsOk n s l := by
  unfold rowsOk
  rw [List.not_any_eq_all_not]
  congr 1
  funext r
  unfold badRowV
  rw [Bool.not_or]
  congr 1
  · rw [Bool.eq_iff_iff, Bool.not_eq_true', decide_eq_false_iff_not, decide_eq_true_eq]
    omega
  · rw [List.not_any_eq_all_not]
    congr 1
    funext x
    unfold badPlaceV inB
    rw [wr (s - 1) (by omega) (by omega), Bool.not_not]

theorem implGoodD_ev (c : List Int) (n : List (List Int)) (f : List Bool) (h : SmallDfa c n f) : Ev (fun k => impl_GoodDfa.f k c n f) (GoodD c n f) := by
  obtain ⟨h1, h2, h3, h4⟩ := h
  unfold impl_GoodDfa.f GoodD
  rw [← badRow_eq c.length (n.length : Int) ⟨by omega, by omega⟩ h1 n]
  by_cases c2 : c.length ≤ 40
  · refine Ev.congr (fun k => by rw [if_pos (by omega)]) (Ev.bind (implRis_ev c 1 1114111 (by omega)) ?_)
    rw [decide_eq_true c2, Bool.true_and]
    cases risV c 1 1114111 with
    | false => exact Ev.congr (fun k => by rw [if_neg (by simp)]) (by simpa using Ev.now false)
    | true =>
      refine Ev.congr (fun k => by rw [if_pos rfl]) ?_
      rw [Bool.true_and]
      by_cases c3 : 1 ≤ (n.length : Int) ∧ (n.length : Int) ≤ 60
      · refine Ev.congr (fun k => by rw [if_pos c3]) ?_
        rw [(inB_iff 1 60 _).2 c3, Bool.true_and]
        by_cases c1 : f.length = n.length
        · rw [decide_eq_true c1, Bool.true_and]
          exact Ev.congr (fun k => by rw [if_pos c1]) (Ev.now _)
        · rw [decide_eq_false c1, Bool.false_and]
          exact Ev.congr (fun k => by rw [if_neg c1]) (Ev.now _)
      · refine Ev.congr (fun k => by rw [if_neg c3]) ?_
        rw [show inB 1 60 (n.length : Int) = false from by cases e : inB 1 60 (n.length : Int) with | false => rfl | true => exact absurd ((inB_iff _ _ _).1 e) c3, Bool.false_and]
        exact Ev.now _
  · rw [decide_eq_false c2, Bool.false_and, Bool.and_false, Bool.and_false]
    exact Ev.congr (fun k => by rw [if_neg (by omega)]) (Ev.now _)
/-- The entry by which a rune goes. -/
def entV (c : List Int) (r : Int) : Nat := (c.takeWhile fun x => decide (x ≤ r)).length
theorem entV_le (c : List Int) (r : Int) : entV c r ≤ c.length := by
  unfold entV
  exact (List.takeWhile_sublist _).length_le
theorem entV_cons (x : Int) (c : List Int) (r : Int) : entV (x :: c) r = if x ≤ r then entV c r + 1 else 0 := by
  unfold entV
  rw [List.takeWhile_cons]
  by_cases h : x ≤ r
  · simp [h]
  · simp [h]
theorem specEnt_l (c : List Int) (n : List (List Int)) (f : List Bool) (r : Int) (hl : c.length ≤ 1099511627776) : ∀ (d j : Nat), j + d = c.length → Ev (fun k => spec_l6Entry.l0 k r (j : Int) c n f) ((j : Int) + (entV (c.drop j) r : Int)) := by
  intro d
  induction d with
  | zero =>
    intro j hj
    refine Ev.step (f := fun _ => some (j : Int)) (fun k => ?_) (by rw [List.drop_of_length_le (by omega)]; simpa [entV] using Ev.now (j : Int))
    simp only [spec_l6Entry.l0]
    rw [if_neg (by omega)]
  | succ d ih =>
    intro j hj
    have hj' : j < c.length := by omega
    have e1 : wrap64 ((j : Int) + 1) = ((j + 1 : Nat) : Int) := by rw [wr _ (by omega) (by omega)]; omega
    rw [drop_at c j hj', entV_cons]
    by_cases h : c[j]'hj' ≤ r
    · rw [if_pos h]
      have := ih (j + 1) (by omega)
      rw [show ((j + 1 : Nat) : Int) + (entV (c.drop (j + 1)) r : Int) = (j : Int) + ((entV (c.drop (j + 1)) r + 1 : Nat) : Int) from by omega] at this
      refine Ev.step (fun k => ?_) this
      simp only [spec_l6Entry.l0]
      rw [if_pos (by omega), if_pos (by omega), rd_at c j hj', if_pos h, e1]
    · rw [if_neg h]
      refine Ev.step (f := fun _ => some (j : Int)) (fun k => ?_) (by simpa using Ev.now (j : Int))
      simp only [spec_l6Entry.l0]
      rw [if_pos (by omega), if_pos (by omega), rd_at c j hj', if_neg h]
theorem specEnt_ev (c : List Int) (n : List (List Int)) (f : List Bool) (r : Int) (hl : c.length ≤ 1099511627776) : Ev (fun k => spec_l6Entry.f k c n f r) (entV c r : Int) :=
  Ev.congr (fun k => by unfold spec_l6Entry.f; rfl) (by simpa using specEnt_l c n f r hl c.length 0 (by omega))

theorem ris_pair (lo hi : Int) (l : List Int) : ∀ p, RisV lo hi p l = true → l.Pairwise (fun a b => a < b) ∧ ∀ q, p = some q → ∀ x ∈ l, q < x := by
  induction l with
  | nil => intro p _; exact ⟨List.Pairwise.nil, fun q _ x hx => by cases hx⟩
  | cons x r ih =>
    intro p h
    rw [RisV, Bool.and_eq_true, Bool.and_eq_true] at h
    obtain ⟨⟨h1, h2⟩, h3⟩ := h
    obtain ⟨i1, i2⟩ := ih (some x) h3
    have i3 := i2 x rfl
    refine ⟨List.pairwise_cons.2 ⟨i3, i1⟩, fun q hq y hy => ?_⟩
    subst hq
    have hx : q < x := by unfold ahead at h2; exact of_decide_eq_true h2
    rcases List.mem_cons.1 hy with rfl | hy
    · exact hx
    · have := i3 y hy; omega

/-- Where a number's place in a rising row is, the entry is told. -/
theorem entV_at (c : List Int) (r : Int) (i : Nat) (hi : i ≤ c.length) (h1 : ∀ (j : Nat) (hj : j < c.length), j < i → c[j] ≤ r) (h2 : ∀ (h : i < c.length), r < c[i]) : entV c r = i := by
  induction c generalizing i with
  | nil => simp at hi; subst hi; rfl
  | cons x t ih =>
    rw [entV_cons]
    cases i with
    | zero =>
      have := h2 (by simp)
      rw [if_neg (by simpa using this)]
    | succ i =>
      have := h1 0 (by simp) (by omega)
      rw [if_pos (by simpa using this), ih i (by simpa using hi) (fun j hj hlt => by have := h1 (j + 1) (by simpa using hj) (by omega); simpa using this) (fun h => by have := h2 (by simpa using h); simpa using this)]

theorem less_v (a b : Int) : cmp_Less_int.f a b = some (decide (a < b)) := by
  unfold cmp_Less_int.f cmp_isNaN_int.f
  by_cases h : a < b
  · simp [h]
  · simp [h]
theorem nan_v (a : Int) : slices_isNaN_int.f a = some false := by
  unfold slices_isNaN_int.f
  simp

theorem search_l (c : List Int) (r : Int) (hl : c.length ≤ 1099511627776) (hs : c.Pairwise (fun a b => a < b)) : ∀ (d lo hi : Nat), hi ≤ lo + d → lo ≤ hi → hi ≤ c.length → (∀ (j : Nat) (hj : j < c.length), j < lo → c[j] < r) → (∀ (j : Nat) (hj : j < c.length), hi ≤ j → r ≤ c[j]) → Ev (fun k => (slices_BinarySearch_int_int.l0 k c r (c.length : Int) (lo : Int) (hi : Int)).bind fun bt => if bt.2 = true then some (wrap64 (bt.1 + 1)) else some bt.1) (entV c r : Int) := by
  have hp := List.pairwise_iff_getElem.1 hs
  intro d
  induction d with
  | zero =>
    intro lo hi h1 h2 h3 ha hb
    have eh : hi = lo := by omega
    subst eh
    by_cases hlt : hi < c.length
    · by_cases he : c[hi]'hlt = r
      · have ev : entV c r = hi + 1 := entV_at c r (hi + 1) (by omega) (fun j hj hjl => by
          by_cases e : j = hi
          · subst e; omega
          · have := ha j hj (by omega); omega) (fun h => by have := hp hi (hi + 1) hlt h (by omega); omega)
        rw [ev]
        refine Ev.bind (a := ((hi : Int), true)) (Ev.step (f := fun _ => some ((hi : Int), true)) (fun k => ?_) (Ev.now _)) ?_
        · simp only [slices_BinarySearch_int_int.l0]
          rw [if_neg (by omega), if_pos (by omega), if_pos (by omega), if_pos (by omega), rd_at c hi hlt, if_pos he]
        · refine Ev.congr (f := fun _ => some ((hi + 1 : Nat) : Int)) (fun k => ?_) (Ev.now _)
          rw [if_pos rfl, wr ((hi : Int) + 1) (by omega) (by omega)]
          rfl
      · have ev : entV c r = hi := entV_at c r hi (by omega) (fun j hj hjl => by have := ha j hj hjl; omega) (fun h => by have := hb hi h (Nat.le_refl _); omega)
        rw [ev]
        refine Ev.bind (a := ((hi : Int), false)) (Ev.step (f := fun _ => some ((hi : Int), false)) (fun k => ?_) (Ev.now _)) ?_
        · simp only [slices_BinarySearch_int_int.l0]
          rw [if_neg (by omega), if_pos (by omega), if_pos (by omega), if_pos (by omega), rd_at c hi hlt, if_neg he, nan_v, Option.bind_some, if_neg (by simp)]
        · exact Ev.congr (f := fun _ => some (hi : Int)) (fun k => by rw [if_neg (by simp)]) (Ev.now _)
    · have ev : entV c r = hi := entV_at c r hi (by omega) (fun j hj hjl => by have := ha j hj hjl; omega) (fun h => absurd h (by omega))
      rw [ev]
      refine Ev.bind (a := ((hi : Int), false)) (Ev.step (f := fun _ => some ((hi : Int), false)) (fun k => ?_) (Ev.now _)) ?_
      · simp only [slices_BinarySearch_int_int.l0]
        rw [if_neg (by omega), if_neg (by omega)]
      · exact Ev.congr (f := fun _ => some (hi : Int)) (fun k => by rw [if_neg (by simp)]) (Ev.now _)
  | succ d ih =>
    intro lo hi h1 h2 h3 ha hb
    by_cases hlt : lo < hi
    · have em : wrap64 ((IntKind.u64.wrap (wrap64 ((lo : Int) + (hi : Int)))) / 2) = (((lo + hi) / 2 : Nat) : Int) := by
        rw [wr ((lo : Int) + (hi : Int)) (by omega) (by omega), show IntKind.u64.wrap ((lo : Int) + (hi : Int)) = (lo : Int) + (hi : Int) from by unfold IntKind.wrap; simp [IntKind.signed, IntKind.bits]; omega, wr _ (by omega) (by omega)]
        omega
      have hm : (lo + hi) / 2 < c.length := by omega
      have st : ∀ (g : Nat → Option (Int × Bool)) (b : Bool), b = decide (c[(lo + hi) / 2]'hm < r) → Ev (fun k => (if b = true then slices_BinarySearch_int_int.l0 k c r (c.length : Int) (((lo + hi) / 2 + 1 : Nat) : Int) (hi : Int) else slices_BinarySearch_int_int.l0 k c r (c.length : Int) (lo : Int) (((lo + hi) / 2 : Nat) : Int)).bind fun bt => if bt.2 = true then some (wrap64 (bt.1 + 1)) else some bt.1) (entV c r : Int) → Ev (fun k => (slices_BinarySearch_int_int.l0 k c r (c.length : Int) (lo : Int) (hi : Int)).bind fun bt => if bt.2 = true then some (wrap64 (bt.1 + 1)) else some bt.1) (entV c r : Int) := by
        intro g b hb' h
        refine Ev.step (fun k => ?_) h
        simp only [slices_BinarySearch_int_int.l0]
        rw [if_pos (by omega), em, if_pos (by omega), if_pos (by omega), rd_at c _ hm, less_v, Option.bind_some, ← hb', wr ((((lo + hi) / 2 : Nat) : Int) + 1) (by omega) (by omega)]
        rfl
      by_cases hc : c[(lo + hi) / 2]'hm < r
      · refine st (fun _ => none) true (decide_eq_true hc).symm (Ev.congr (fun k => by rw [if_pos rfl]) (ih ((lo + hi) / 2 + 1) hi (by omega) (by omega) h3 (fun j hj hjl => ?_) hb))
        by_cases e : j = (lo + hi) / 2
        · subst e; exact hc
        · have := hp j ((lo + hi) / 2) hj hm (by omega); omega
      · refine st (fun _ => none) false (decide_eq_false hc).symm (Ev.congr (fun k => by rw [if_neg (by simp)]) (ih lo ((lo + hi) / 2) (by omega) (by omega) (by omega) ha (fun j hj hjl => ?_)))
        by_cases e : j = (lo + hi) / 2
        · subst e; omega
        · have := hp ((lo + hi) / 2) j hm hj (by omega); omega
    · have eh : hi = lo := by omega
      subst eh
      exact ih hi hi (by omega) (by omega) h3 ha hb

theorem implEnt_ev (c : List Int) (n : List (List Int)) (f : List Bool) (r : Int) (hl : c.length ≤ 1099511627776) (hs : c.Pairwise (fun a b => a < b)) : Ev (fun k => impl_Dfa_entry.f k c n f r) (entV c r : Int) := by
  unfold impl_Dfa_entry.f slices_BinarySearch_int_int.f
  exact search_l c r hl hs c.length 0 c.length (by omega) (by omega) (by omega) (fun j hj h => absurd h (by omega)) (fun j hj h => absurd h (by omega))
/-- The state behind a list. -/
def runV (c : List Int) (n : List (List Int)) : Int → List Int → Int
  | s, r :: t => runV c n ((n.getD s.toNat []).getD (entV c r) 0) t
  | s, [] => s
theorem goodD_facts (c : List Int) (n : List (List Int)) (f : List Bool) (h : GoodD c n f = true) : 1 ≤ n.length ∧ n.length ≤ 60 ∧ f.length = n.length ∧ c.length ≤ 40 ∧ risV c 1 1114111 = true ∧ c.Pairwise (fun a b => a < b) ∧ ∀ r ∈ n, r.length = c.length + 1 ∧ ∀ x ∈ r, 0 ≤ x ∧ x ≤ (n.length : Int) - 1 := by
  unfold GoodD at h
  simp only [Bool.and_eq_true, decide_eq_true_eq, inB_iff] at h
  obtain ⟨⟨h1, h2⟩, h3, h4, h5, h6⟩ := h
  refine ⟨by omega, by omega, h3, h4, h5, (ris_pair _ _ _ _ h5).1, fun r hr => ?_⟩
  unfold rowsOk at h6
  have := List.all_eq_true.1 h6 r hr
  rw [Bool.and_eq_true, decide_eq_true_eq] at this
  exact ⟨this.1, fun x hx => (inB_iff _ _ _).1 (List.all_eq_true.1 this.2 x hx)⟩
theorem next_ok (c : List Int) (n : List (List Int)) (f : List Bool) (h : GoodD c n f = true) (s : Nat) (hs : s < n.length) (r : Int) : (n[s]).length = c.length + 1 ∧ ∃ q : Nat, (n.getD s []).getD (entV c r) 0 = (q : Int) ∧ q < n.length ∧ rd (n[s]) (entV c r : Int) = (q : Int) := by
  obtain ⟨h1, h2, h3, h4, h5, h6, h7⟩ := goodD_facts c n f h
  obtain ⟨g1, g2⟩ := h7 _ (List.getElem_mem hs)
  have he := entV_le c r
  have hx := g2 _ (List.getElem_mem (show entV c r < (n[s]).length by omega))
  refine ⟨g1, ((n[s])[entV c r]'(by omega)).toNat, ?_, by omega, ?_⟩
  · rw [show n.getD s [] = n[s] from by simp [List.getD_eq_getElem?_getD, hs], getD_at (n[s]) (entV c r) (by omega)]
    omega
  · rw [rd_at (n[s]) (entV c r) (by omega)]
    omega
theorem runV_ok (c : List Int) (n : List (List Int)) (f : List Bool) (h : GoodD c n f = true) (l : List Int) : ∀ s : Nat, s < n.length → ∃ q : Nat, runV c n (s : Int) l = (q : Int) ∧ q < n.length := by
  induction l with
  | nil => intro s hs; exact ⟨s, rfl, hs⟩
  | cons r t ih =>
    intro s hs
    obtain ⟨_, q, e, hq, _⟩ := next_ok c n f h s hs r
    rw [runV, Int.toNat_natCast, e]
    exact ih q hq
theorem specRun_l (c : List Int) (n : List (List Int)) (f : List Bool) (h : GoodD c n f = true) (l : List Int) (hl : l.length ≤ 1000) : ∀ (d j s : Nat), j + d = l.length → s < n.length → Ev (fun k => spec_l6RunDfa.l0 k (s : Int) l (l.length : Int) (j : Int) c n f) (f.getD (runV c n (s : Int) (l.drop j)).toNat false) := by
  obtain ⟨h1, h2, h3, h4, h5, h6, h7⟩ := goodD_facts c n f h
  intro d
  induction d with
  | zero =>
    intro j s hj hs
    rw [List.drop_of_length_le (by omega), runV, Int.toNat_natCast]
    refine Ev.step (f := fun _ => some (f.getD s false)) (fun k => ?_) (Ev.now _)
    simp only [spec_l6RunDfa.l0]
    rw [if_neg (by omega), if_pos (by omega), if_pos (by omega)]
    simp [rdOf]
  | succ d ih =>
    intro j s hj hs
    have hj' : j < l.length := by omega
    have e1 : wrap64 ((j : Int) + 1) = ((j + 1 : Nat) : Int) := by rw [wr _ (by omega) (by omega)]; omega
    obtain ⟨hrow, q, e, hq, erd⟩ := next_ok c n f h s hs (l[j]'hj')
    have he := entV_le c (l[j]'hj')
    rw [drop_at l j hj', runV, Int.toNat_natCast, e]
    refine Ev.step (fun k => by simp only [spec_l6RunDfa.l0]; rw [if_pos (by omega), if_pos (by omega), if_pos (by omega), if_pos (by omega), if_pos (by omega), rd_at l j hj', rdL_at n s hs, e1]) ?_
    refine Ev.bind (specEnt_ev c n f (l[j]'hj') (by omega)) (Ev.congr (fun k => ?_) (ih (j + 1) q (by omega) hq))
    rw [if_pos (by omega), if_pos (by omega), erd]
theorem implRun_l (c : List Int) (n : List (List Int)) (f : List Bool) (h : GoodD c n f = true) (l : List Int) (hl : l.length ≤ 1000) : ∀ (d j s : Nat), j + d = l.length → s < n.length → Ev (fun k => impl_RunDfa.l0 k (s : Int) l (l.length : Int) (j : Int) c n f) (f.getD (runV c n (s : Int) (l.drop j)).toNat false, true) := by
  obtain ⟨h1, h2, h3, h4, h5, h6, h7⟩ := goodD_facts c n f h
  intro d
  induction d with
  | zero =>
    intro j s hj hs
    rw [List.drop_of_length_le (by omega), runV, Int.toNat_natCast]
    refine Ev.step (f := fun _ => some (f.getD s false, true)) (fun k => ?_) (Ev.now _)
    simp only [impl_RunDfa.l0]
    rw [if_neg (by omega), if_pos (by omega), if_pos (by omega)]
    simp [rdOf]
  | succ d ih =>
    intro j s hj hs
    have hj' : j < l.length := by omega
    have e1 : wrap64 ((j : Int) + 1) = ((j + 1 : Nat) : Int) := by rw [wr _ (by omega) (by omega)]; omega
    obtain ⟨hrow, q, e, hq, erd⟩ := next_ok c n f h s hs (l[j]'hj')
    have he := entV_le c (l[j]'hj')
    rw [drop_at l j hj', runV, Int.toNat_natCast, e]
    refine Ev.step (fun k => by simp only [impl_RunDfa.l0]; rw [if_pos (by omega), if_pos (by omega), if_pos (by omega), if_pos (by omega), if_pos (by omega), rd_at l j hj', rdL_at n s hs, e1]) ?_
    refine Ev.bind (implEnt_ev c n f (l[j]'hj') (by omega) h6) (Ev.congr (fun k => ?_) (ih (j + 1) q (by omega) hq))
    rw [if_pos (by omega), if_pos (by omega), erd]
/-- RunDfa. -/
def runR (c : List Int) (n : List (List Int)) (f : List Bool) (l : List Int) : Bool × Bool := if (GoodD c n f && (l.all isR && decide (l.length ≤ 1000))) = true then (f.getD (runV c n 0 l).toNat false, true) else (false, false)
theorem runR_spec (c : List Int) (n : List (List Int)) (f : List Bool) (l : List Int) (h : SmallDfa c n f) (hl : l.length ≤ 17592186044416) : Ev (fun k => spec_RunDfa.f k c n f l) (runR c n f l) := by
  unfold spec_RunDfa.f runR
  refine Ev.bind (specGoodD_ev c n f h) ?_
  cases hg : GoodD c n f with
  | false => exact Ev.congr (fun k => by rw [if_neg (by simp)]) (by simpa using Ev.now (false, false))
  | true =>
    refine Ev.congr (fun k => by rw [if_pos rfl]) (Ev.bind (specAllRunes_ev l hl) ?_)
    rw [Bool.true_and]
    cases ha : l.all isR && decide (l.length ≤ 1000) with
    | false => exact Ev.congr (fun k => by rw [if_neg (by simp)]) (by simpa using Ev.now (false, false))
    | true =>
      have hn : l.length ≤ 1000 := by rw [Bool.and_eq_true, decide_eq_true_eq] at ha; exact ha.2
      refine Ev.congr (fun k => by rw [if_pos rfl]) ?_
      rw [if_pos rfl]
      unfold spec_l6RunDfa.f
      exact Ev.bind (specRun_l c n f hg l hn l.length 0 0 (by omega) (goodD_facts c n f hg).1) (Ev.now _)
theorem runR_impl (c : List Int) (n : List (List Int)) (f : List Bool) (l : List Int) (h : SmallDfa c n f) (hl : l.length ≤ 17592186044416) : Ev (fun k => impl_RunDfa.f k c n f l) (runR c n f l) := by
  have bad : Ev (fun k => impl_RunDfa.j0 k l true c n f) (false, false) := Ev.step (f := fun _ => some (false, false)) (fun k => by simp [impl_RunDfa.j0]) (Ev.now _)
  have ea : areRunesV l 1000 = (l.all isR && decide (l.length ≤ 1000)) := by
    rw [areRunesV_eq]
    congr 1
    rw [Bool.eq_iff_iff, decide_eq_true_eq, decide_eq_true_eq]
    omega
  unfold impl_RunDfa.f impl_areRunes.f runR
  rw [ea]
  refine Ev.bind (implGoodD_ev c n f h) ?_
  cases hg : GoodD c n f with
  | false => exact Ev.congr (fun k => by rw [if_neg (by simp)]) (by simpa using bad)
  | true =>
    refine Ev.congr (fun k => by rw [if_pos rfl, Option.bind_some]) ?_
    rw [Bool.true_and]
    cases ha : l.all isR && decide (l.length ≤ 1000) with
    | false => simpa using bad
    | true =>
      have hn : l.length ≤ 1000 := by rw [Bool.and_eq_true, decide_eq_true_eq] at ha; exact ha.2
      rw [if_pos rfl]
      refine Ev.step (f := fun k => impl_RunDfa.l0 k ((0 : Nat) : Int) l (l.length : Int) ((0 : Nat) : Int) c n f) (fun k => by simp [impl_RunDfa.j0]) ?_
      exact implRun_l c n f hg l hn l.length 0 0 (by omega) (goodD_facts c n f hg).1
theorem FnExactRunDfa (c : List Int) (n : List (List Int)) (f : List Bool) (l : List Int) (hc : c.length ≤ 9223372036854775807) (hn : n.length ≤ 9223372036854775807) (hr : ∀ r ∈ n, r.length ≤ 9223372036854775807) (hf : f.length ≤ 9223372036854775807) (_ : l.length ≤ 9223372036854775807) : ∃ k, laws_FnExactRunDfa.f k c n f l = some true := by
  refine Ev.rounds (r := true) ?_
  unfold laws_FnExactRunDfa.f
  by_cases h0 : (l.length : Int) > 1048576
  · exact Ev.congr (fun k => by rw [if_pos h0]) (Ev.now true)
  have hl : l.length ≤ 17592186044416 := by omega
  obtain ⟨v, e1, _, e2⟩ := szDfa_ev c n f hc hn hr hf 1048576 (by omega) (by omega)
  refine Ev.congr (fun k => by rw [if_neg h0]) (Ev.bind e1 ?_)
  by_cases h : v < 0
  · exact Ev.congr (fun k => by rw [if_pos h]) (Ev.now true)
  · have hs := e2.resolve_left h
    have cs := runR_spec c n f l hs hl
    have ci := runR_impl c n f l hs hl
    generalize runR c n f l = q at cs ci
    obtain ⟨a, b⟩ := q
    have j0 : Ev (fun k => laws_FnExactRunDfa.j0 k l l false c n f c n f) true := by
      refine Ev.step (fun k => by simp only [laws_FnExactRunDfa.j0]; rw [if_neg (by simp)]) ?_
      refine Ev.bind (toDfa_ev c n f hs) (Ev.bind (eqDfa_ev c n f hs) (Ev.congr (fun k => by rw [if_pos rfl]) (Ev.bind (toIntS_ev l hl) (Ev.bind (eqIntS_ev l l hl) ?_))))
      exact Ev.congr (fun k => by rw [if_pos (by simp)]) (Ev.now true)
    refine Ev.congr (fun k => by rw [if_neg h]) (Ev.bind (toDfa_ev c n f hs) (Ev.bind (toIntS_ev l hl) (Ev.bind cs (Ev.bind (toDfa_ev c n f hs) (Ev.bind (toIntS_ev l hl) (Ev.bind ci ?_))))))
    exact Ev.congr (fun k => by rw [if_neg (by simp), bne_self_eq_false]) j0

end Go.Proofs.Ytaeaeejfaffbpaa.Pure
