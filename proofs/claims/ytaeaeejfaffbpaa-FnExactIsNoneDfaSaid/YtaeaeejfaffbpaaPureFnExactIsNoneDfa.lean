/-
  For every input the law FnExactIsNoneDfa returns true; no condition.
-/
import Derived.Test.YtaeaeejfaffbpaaHFnExactIsNoneDfax11
namespace Go.Proofs.Ytaeaeejfaffbpaa.Pure
open Go.RowKit Go.Proofs.Ytaeaeejfaffbpaa.HFnExactIsNoneDfa Go.Proofs.YtaeaeejfaffbpaaW.PrintWords Go.Proofs.YtaeaeejfaffbpaaW.PrintLast
set_option linter.unusedSimpArgs false
set_option linter.unusedVariables false
theorem wr (i : Int) (h0 : -9223372036854775808 ≤ i) (h1 : i ≤ 9223372036854775807) : wrap64 i = i := by unfold wrap64; omega

theorem rd_nat (l : List Int) (j : Nat) : rd l (j : Int) = l.getD j 0 := by unfold rd; simp

theorem getD_at (l : List Int) (j : Nat) (h : j < l.length) : l.getD j 0 = l[j] := by simp [List.getD_eq_getElem?_getD, h]

theorem rd_at (l : List Int) (j : Nat) (h : j < l.length) : rd l (j : Int) = l[j] := by rw [rd_nat, getD_at l j h]

theorem drop_at (l : List Int) (j : Nat) (h : j < l.length) : l.drop j = l[j] :: l.drop (j + 1) := List.drop_eq_getElem_cons h

theorem toIntS_l (l : List Int) (hl : l.length ≤ 17592186044416) : ∀ (d j : Nat) (o : List Int), j + d = l.length → o.length = l.length → (∀ i, i < j → o.getD i 0 = l.getD i 0) → Ev (fun k => laws_toIntS.l0 k l o (j : Int)) l := by
  intro d
  induction d with
  | zero =>
    intro j o hj ho he
    refine Ev.step (f := fun _ => some l) (fun k => ?_) (Ev.now l)
    simp only [laws_toIntS.l0]
    rw [if_neg (by omega)]
    congr 1
    refine List.ext_getElem (by omega) fun i h1 h2 => ?_
    have := he i (by omega)
    rwa [getD_at o i h1, getD_at l i h2] at this
  | succ d ih =>
    intro j o hj ho he
    refine Ev.step (f := fun k => laws_toIntS.l0 k l (o.set j (l.getD j 0)) ((j + 1 : Nat) : Int)) (fun k => ?_) (ih (j + 1) _ (by omega) (by rw [List.length_set]; exact ho) fun i hi => ?_)
    · simp only [laws_toIntS.l0]
      rw [if_pos (by omega), if_pos (by omega), if_pos (by omega), wr _ (by omega) (by omega), rd_nat]
      simp
    · by_cases e : i = j
      · subst e
        rw [getD_at _ _ (by rw [List.length_set]; omega)]
        simp
      · rw [← he i (by omega)]
        simp [List.getD_eq_getElem?_getD, List.getElem?_set, Ne.symm e]

theorem toIntS_ev (l : List Int) (hl : l.length ≤ 17592186044416) : Ev (fun k => laws_toIntS.f k l) l := by
  refine Ev.congr (f := fun k => laws_toIntS.l0 k l (List.replicate l.length 0) ((0 : Nat) : Int)) (fun k => ?_) (toIntS_l l hl l.length 0 _ (by omega) (by simp) (fun i hi => by omega))
  unfold laws_toIntS.f
  rw [if_pos (by omega), if_pos (by omega)]
  simp

theorem eqIntS_l (a b : List Int) (hab : a.length = b.length) (hl : a.length ≤ 17592186044416) : ∀ (d j : Nat), j + d = a.length → a.take j = b.take j → Ev (fun k => laws_eqIntS.l0 k a b (j : Int)) (decide (a = b)) := by
  intro d
  induction d with
  | zero =>
    intro j hj ht
    refine Ev.step (f := fun _ => some (decide (a = b))) (fun k => ?_) (Ev.now _)
    simp only [laws_eqIntS.l0]
    rw [if_neg (by omega)]
    rw [List.take_of_length_le (by omega), List.take_of_length_le (by omega)] at ht
    simp [ht]
  | succ d ih =>
    intro j hj ht
    by_cases e : a[j]'(by omega) = b[j]'(by omega)
    · refine Ev.step (f := fun k => laws_eqIntS.l0 k a b ((j + 1 : Nat) : Int)) (fun k => ?_) (ih (j + 1) (by omega) ?_)
      · simp only [laws_eqIntS.l0]
        rw [if_pos (by omega), if_pos (by omega), if_pos (by omega), rd_at a j (by omega), rd_at b j (by omega), if_pos e, wr _ (by omega) (by omega)]
        simp
      · rw [List.take_succ_eq_append_getElem (by omega), List.take_succ_eq_append_getElem (by omega), ht, e]
    · refine Ev.step (f := fun _ => some (decide (a = b))) (fun k => ?_) (Ev.now _)
      simp only [laws_eqIntS.l0]
      rw [if_pos (by omega), if_pos (by omega), if_pos (by omega), rd_at a j (by omega), rd_at b j (by omega), if_neg e]
      have : ¬ a = b := fun h => e (by subst h; rfl)
      simp [this]

theorem eqIntS_ev (a b : List Int) (hl : a.length ≤ 17592186044416) : Ev (fun k => laws_eqIntS.f k a b) (decide (a = b)) := by
  by_cases h : a.length = b.length
  · refine Ev.congr (f := fun k => laws_eqIntS.l0 k a b ((0 : Nat) : Int)) (fun k => ?_) (eqIntS_l a b h hl a.length 0 (by omega) (by simp))
    unfold laws_eqIntS.f
    rw [if_pos (by omega)]
    simp
  · refine Ev.congr (f := fun _ => some (decide (a = b))) (fun k => ?_) (Ev.now _)
    unfold laws_eqIntS.f
    rw [if_neg (by omega)]
    have : ¬ a = b := fun e => h (by rw [e])
    simp [this]

/-- Within bounds. -/
def inB (lo hi n : Int) : Bool := decide (lo ≤ n ∧ n ≤ hi)
theorem inB_iff (lo hi n : Int) : inB lo hi n = true ↔ lo ≤ n ∧ n ≤ hi := by simp [inB]

theorem in_s (a b c : Int) : spec_l1In.f a b c = some (inB b c a) := by
  unfold spec_l1In.f inB
  by_cases h : a ≥ b
  · rw [if_pos h]; simp [show b ≤ a from h]
  · rw [if_neg h]; simp [show ¬ b ≤ a from h]

theorem in_i (a b c : Int) : impl_inRange.f a b c = some (inB b c a) := by
  unfold impl_inRange.f inB
  by_cases h : b ≤ a
  · rw [if_pos h]; simp [h]
  · rw [if_neg h]; simp [h]

theorem l1All_l (lo hi : Int) (l : List Int) (hl : l.length ≤ 17592186044416) : ∀ (d j : Nat), j + d = l.length → Ev (fun k => spec_l1All.l0 k lo hi l (l.length : Int) (j : Int)) ((l.drop j).all (inB lo hi)) := by
  intro d
  induction d with
  | zero =>
    intro j hj
    refine Ev.step (f := fun _ => some ((l.drop j).all (inB lo hi))) (fun k => ?_) (Ev.now _)
    simp only [spec_l1All.l0]
    rw [if_neg (by omega), List.drop_of_length_le (by omega)]
    rfl
  | succ d ih =>
    intro j hj
    cases e : inB lo hi (l[j]'(by omega)) with
    | true =>
      refine Ev.step (f := fun k => spec_l1All.l0 k lo hi l (l.length : Int) ((j + 1 : Nat) : Int)) (fun k => ?_) ?_
      · simp only [spec_l1All.l0]
        rw [if_pos (by omega), if_pos (by omega), if_pos (by omega), rd_at l j (by omega), in_s, wr _ (by omega) (by omega), e]
        simp
      · rw [drop_at l j (by omega), List.all_cons, e, Bool.true_and]
        exact ih (j + 1) (by omega)
    | false =>
      refine Ev.step (f := fun _ => some ((l.drop j).all (inB lo hi))) (fun k => ?_) (Ev.now _)
      simp only [spec_l1All.l0]
      rw [if_pos (by omega), if_pos (by omega), if_pos (by omega), rd_at l j (by omega), in_s, e, drop_at l j (by omega), List.all_cons, e]
      simp

theorem l1All_ev (l : List Int) (hl : l.length ≤ 17592186044416) (lo hi : Int) : Ev (fun k => spec_l1All.f k l lo hi) (l.all (inB lo hi)) :=
  Ev.congr (fun k => by unfold spec_l1All.f; rfl) (l1All_l lo hi l hl l.length 0 (by omega))

theorem rdL_at (l : List (List Int)) (j : Nat) (h : j < l.length) : rd_L1 l (j : Int) = l[j] := by unfold rd_L1; simp [List.getD_eq_getElem?_getD, h]

theorem toIntSS_l (l : List (List Int)) (hl : l.length ≤ 1099511627776) (hr : ∀ r ∈ l, r.length ≤ 1099511627776) : ∀ (d j : Nat) (o : List (List Int)), j + d = l.length → o.length = l.length → (∀ i, i < j → o.getD i [] = l.getD i []) → Ev (fun k => laws_toIntSS.l0 k l o (j : Int)) l := by
  intro d
  induction d with
  | zero =>
    intro j o hj ho he
    refine Ev.step (f := fun _ => some l) (fun k => ?_) (Ev.now l)
    simp only [laws_toIntSS.l0]
    rw [if_neg (by omega)]
    congr 1
    refine List.ext_getElem (by omega) fun i h1 h2 => ?_
    have := he i (by omega)
    simpa [List.getD_eq_getElem?_getD, h1, h2] using this
  | succ d ih =>
    intro j o hj ho he
    have hj' : j < l.length := by omega
    refine Ev.step (f := fun k => (laws_toIntS.f k (l[j]'(by omega))).bind fun t => laws_toIntSS.l0 k l (o.set j t) ((j + 1 : Nat) : Int)) (fun k => ?_) (Ev.bind (toIntS_ev (l[j]'(by omega)) (by have := hr _ (List.getElem_mem hj'); omega)) (ih (j + 1) (o.set j (l[j]'(by omega))) (by omega) (by rw [List.length_set]; exact ho) fun i hi => ?_))
    · simp only [laws_toIntSS.l0]
      rw [if_pos (by omega), if_pos (by omega), rdL_at l j (by omega), wr ((j : Int) + 1) (by omega) (by omega)]
      congr 1
      funext t
      rw [if_pos (by omega)]
      simp
    · by_cases e : i = j
      · subst e
        simp [List.getD_eq_getElem?_getD, List.getElem?_set, ho, hj']
      · rw [← he i (by omega)]
        simp [List.getD_eq_getElem?_getD, List.getElem?_set, Ne.symm e]
theorem toIntSS_ev (l : List (List Int)) (hl : l.length ≤ 1099511627776) (hr : ∀ r ∈ l, r.length ≤ 1099511627776) : Ev (fun k => laws_toIntSS.f k l) l := by
  refine Ev.congr (f := fun k => laws_toIntSS.l0 k l (List.replicate l.length []) ((0 : Nat) : Int)) (fun k => ?_) (toIntSS_l l hl hr l.length 0 _ (by omega) (by simp) (fun i hi => by omega))
  unfold laws_toIntSS.f
  rw [if_pos (by omega), if_pos (by omega)]
  simp

theorem eqIntSS_l (a : List (List Int)) (hl : a.length ≤ 1099511627776) (hr : ∀ r ∈ a, r.length ≤ 1099511627776) : ∀ (d j : Nat), j + d = a.length → Ev (fun k => laws_eqIntSS.l0 k a a (j : Int)) true := by
  intro d
  induction d with
  | zero =>
    intro j hj
    refine Ev.step (f := fun _ => some true) (fun k => ?_) (Ev.now _)
    simp only [laws_eqIntSS.l0]
    rw [if_neg (by omega)]
  | succ d ih =>
    intro j hj
    have hj' : j < a.length := by omega
    refine Ev.step (f := fun k => (laws_eqIntS.f k (a[j]'(by omega)) (a[j]'(by omega))).bind fun t => if t = true then laws_eqIntSS.l0 k a a ((j + 1 : Nat) : Int) else some false) (fun k => ?_) (Ev.bind (eqIntS_ev (a[j]'(by omega)) (a[j]'(by omega)) (by have := hr _ (List.getElem_mem hj'); omega)) ?_)
    · simp only [laws_eqIntSS.l0]
      rw [if_pos (by omega), if_pos (by omega), if_pos (by omega), rdL_at a j (by omega), wr ((j : Int) + 1) (by omega) (by omega)]
      rfl
    · exact Ev.congr (fun k => by rw [if_pos (by simp)]) (ih (j + 1) (by omega))
theorem eqIntSS_ev (a : List (List Int)) (hl : a.length ≤ 1099511627776) (hr : ∀ r ∈ a, r.length ≤ 1099511627776) : Ev (fun k => laws_eqIntSS.f k a a) true :=
  Ev.congr (fun k => by unfold laws_eqIntSS.f; rw [if_pos rfl]; rfl) (eqIntSS_l a hl hr a.length 0 (by omega))

theorem szIntS_v (l : List Int) (b : Int) (h0 : 0 ≤ b) (h1 : b ≤ 1048576) (hl : l.length ≤ 9223372036854775807) : laws_szIntS.f l b = some (if b - (l.length : Int) < 0 then -1 else b - (l.length : Int)) := by
  unfold laws_szIntS.f
  rw [wr _ (by omega) (by omega)]
  split <;> rfl
def szRows : Int → List (List Int) → Int
  | b, r :: t => if b - (r.length : Int) < 0 then -1 else szRows (b - (r.length : Int)) t
  | b, [] => b
theorem szRows_ok (l : List (List Int)) : ∀ b, 0 ≤ b → szRows b l ≤ b ∧ (szRows b l < 0 ∨ (∀ r ∈ l, (r.length : Int) ≤ b)) := by
  induction l with
  | nil => intro b _; exact ⟨Int.le_refl _, Or.inr (fun r h => by cases h)⟩
  | cons x t ih =>
    intro b hb
    rw [szRows]
    by_cases c : b - (x.length : Int) < 0
    · rw [if_pos c]; exact ⟨by omega, Or.inl (by omega)⟩
    · rw [if_neg c]
      obtain ⟨h1, h2⟩ := ih (b - (x.length : Int)) (by omega)
      refine ⟨by omega, h2.imp id fun h r hr => ?_⟩
      rcases List.mem_cons.1 hr with rfl | hr
      · omega
      · have := h r hr; omega
theorem szIntSS_l (l : List (List Int)) (hl : l.length ≤ 1048576) (hr : ∀ r ∈ l, r.length ≤ 9223372036854775807) : ∀ (d j : Nat) (b : Int), j + d = l.length → 0 ≤ b → b ≤ 1048576 → Ev (fun k => laws_szIntSS.l0 k l b (j : Int)) (szRows b (l.drop j)) := by
  intro d
  induction d with
  | zero =>
    intro j b hj h0 h1
    refine Ev.step (f := fun _ => some b) (fun k => ?_) (by rw [List.drop_of_length_le (by omega)]; exact Ev.now _)
    simp only [laws_szIntSS.l0]
    rw [if_neg (by omega)]
  | succ d ih =>
    intro j b hj h0 h1
    have hj' : j < l.length := by omega
    rw [List.drop_eq_getElem_cons hj', szRows]
    refine Ev.step (f := fun k => (laws_szIntS.f (l[j]'hj') b).bind fun t => if t < 0 then some (-1) else laws_szIntSS.l0 k l t ((j + 1 : Nat) : Int)) (fun k => ?_) ?_
    · simp only [laws_szIntSS.l0]
      rw [if_pos (by omega), if_pos (by omega), rdL_at l j hj', wr ((j : Int) + 1) (by omega) (by omega)]
      rfl
    · rw [szIntS_v _ _ h0 h1 (hr _ (List.getElem_mem hj'))]
      refine Ev.bind (Ev.now _) ?_
      by_cases c : b - ((l[j]'hj').length : Int) < 0
      · rw [if_pos c, if_pos c]
        exact Ev.congr (fun k => by rw [if_pos (by omega)]) (Ev.now _)
      · rw [if_neg c, if_neg c]
        exact Ev.congr (fun k => by rw [if_neg c]) (ih (j + 1) _ (by omega) (by omega) (by omega))
theorem szIntSS_ev (l : List (List Int)) (b : Int) (h0 : 0 ≤ b) (h1 : b ≤ 1048576) (hl : l.length ≤ 9223372036854775807) (hr : ∀ r ∈ l, r.length ≤ 9223372036854775807) : ∃ v, Ev (fun k => laws_szIntSS.f k l b) v ∧ v ≤ b ∧ (v < 0 ∨ ((l.length : Int) ≤ b ∧ ∀ r ∈ l, (r.length : Int) ≤ b)) := by
  unfold laws_szIntSS.f
  rw [wr (b - (l.length : Int)) (by omega) (by omega)]
  by_cases c : b - (l.length : Int) < 0
  · exact ⟨-1, Ev.congr (fun k => by rw [if_pos c]) (Ev.now _), by omega, Or.inl (by omega)⟩
  · obtain ⟨g1, g2⟩ := szRows_ok l (b - (l.length : Int)) (by omega)
    refine ⟨szRows (b - (l.length : Int)) l, Ev.congr (fun k => by rw [if_neg c]; rfl) (szIntSS_l l (by omega) hr l.length 0 _ (by omega) (by omega) (by omega)), by omega, g2.imp id fun h => ⟨by omega, fun r hr => by have := h r hr; omega⟩⟩
theorem rdB_at (l : List Bool) (j : Nat) (h : j < l.length) : rdOf false l (j : Int) = l[j] := by unfold rdOf; simp [List.getD_eq_getElem?_getD, h]
theorem toBoolS_l (l : List Bool) (hl : l.length ≤ 1099511627776) : ∀ (d j : Nat) (o : List Bool), j + d = l.length → o.length = l.length → (∀ i, i < j → o.getD i false = l.getD i false) → Ev (fun k => laws_toBoolS.l0 k l o (j : Int)) l := by
  intro d
  induction d with
  | zero =>
    intro j o hj ho he
    refine Ev.step (f := fun _ => some l) (fun k => ?_) (Ev.now l)
    simp only [laws_toBoolS.l0]
    rw [if_neg (by omega)]
    congr 1
    refine List.ext_getElem (by omega) fun i h1 h2 => ?_
    have := he i (by omega)
    simpa [List.getD_eq_getElem?_getD, h1, h2] using this
  | succ d ih =>
    intro j o hj ho he
    have hj' : j < l.length := by omega
    refine Ev.step (f := fun k => laws_toBoolS.l0 k l (o.set j (l[j]'hj')) ((j + 1 : Nat) : Int)) (fun k => ?_) (ih (j + 1) (o.set j (l[j]'hj')) (by omega) (by rw [List.length_set]; exact ho) fun i hi => ?_)
    · simp only [laws_toBoolS.l0]
      rw [if_pos (by omega), if_pos (by omega), if_pos (by omega), rdB_at l j hj', wr ((j : Int) + 1) (by omega) (by omega)]
      simp
    · by_cases e : i = j
      · subst e
        simp [List.getD_eq_getElem?_getD, List.getElem?_set, ho, hj']
      · rw [← he i (by omega)]
        simp [List.getD_eq_getElem?_getD, List.getElem?_set, Ne.symm e]
theorem toBoolS_ev (l : List Bool) (hl : l.length ≤ 1099511627776) : Ev (fun k => laws_toBoolS.f k l) l := by
  refine Ev.congr (f := fun k => laws_toBoolS.l0 k l (List.replicate l.length false) ((0 : Nat) : Int)) (fun k => ?_) (toBoolS_l l hl l.length 0 _ (by omega) (by simp) (fun i hi => by omega))
  unfold laws_toBoolS.f
  rw [if_pos (by omega), if_pos (by omega)]
  simp
theorem eqBoolS_l (a : List Bool) (hl : a.length ≤ 1099511627776) : ∀ (d j : Nat), j + d = a.length → Ev (fun k => laws_eqBoolS.l0 k a a (j : Int)) true := by
  intro d
  induction d with
  | zero =>
    intro j hj
    refine Ev.step (f := fun _ => some true) (fun k => ?_) (Ev.now _)
    simp only [laws_eqBoolS.l0]
    rw [if_neg (by omega)]
  | succ d ih =>
    intro j hj
    refine Ev.step (f := fun k => laws_eqBoolS.l0 k a a ((j + 1 : Nat) : Int)) (fun k => ?_) (ih (j + 1) (by omega))
    simp only [laws_eqBoolS.l0]
    rw [if_pos (by omega), if_pos (by omega), if_pos (by omega), if_neg (by simp), wr ((j : Int) + 1) (by omega) (by omega)]
    rfl
theorem eqBoolS_ev (a : List Bool) (hl : a.length ≤ 1099511627776) : Ev (fun k => laws_eqBoolS.f k a a) true :=
  Ev.congr (fun k => by unfold laws_eqBoolS.f; rw [if_pos rfl]; rfl) (eqBoolS_l a hl a.length 0 (by omega))
theorem szBoolS_v (l : List Bool) (b : Int) (h0 : 0 ≤ b) (h1 : b ≤ 1048576) (hl : l.length ≤ 9223372036854775807) : laws_szBoolS.f l b = some (if b - (l.length : Int) < 0 then -1 else b - (l.length : Int)) := by
  unfold laws_szBoolS.f
  rw [wr _ (by omega) (by omega)]
  split <;> rfl

/-- A machine within bounds. -/
def SmallDfa (c : List Int) (n : List (List Int)) (f : List Bool) : Prop := c.length ≤ 1048576 ∧ n.length ≤ 1048576 ∧ (∀ r ∈ n, r.length ≤ 1048576) ∧ f.length ≤ 1048576
theorem szDfa_ev (c : List Int) (n : List (List Int)) (f : List Bool) (hc : c.length ≤ 9223372036854775807) (hn : n.length ≤ 9223372036854775807) (hr : ∀ r ∈ n, r.length ≤ 9223372036854775807) (hf : f.length ≤ 9223372036854775807) (b : Int) (b0 : 0 ≤ b) (b1 : b ≤ 1048576) : ∃ v, Ev (fun k => laws_szDfa.f k c n f b) v ∧ v ≤ b ∧ (v < 0 ∨ SmallDfa c n f) := by
  unfold laws_szDfa.f
  rw [szIntS_v c b b0 b1 hc]
  by_cases h1 : b - (c.length : Int) < 0
  · exact ⟨-1, Ev.congr (fun k => by rw [if_pos h1, Option.bind_some, if_pos (by omega)]) (Ev.now _), by omega, Or.inl (by omega)⟩
  · rw [if_neg h1]
    obtain ⟨v, e1, e2, e3⟩ := szIntSS_ev n (b - (c.length : Int)) (by omega) (by omega) hn hr
    by_cases h2 : v < 0
    · exact ⟨-1, Ev.congr (fun k => by rw [Option.bind_some, if_neg h1]) (Ev.bind e1 (Ev.congr (fun k => by rw [if_pos h2]) (Ev.now _))), by omega, Or.inl (by omega)⟩
    · obtain ⟨g1, g2⟩ := e3.resolve_left h2
      by_cases h3 : v - (f.length : Int) < 0
      · exact ⟨-1, Ev.congr (fun k => by rw [Option.bind_some, if_neg h1]) (Ev.bind e1 (Ev.congr (fun k => by rw [if_neg h2, szBoolS_v f v (by omega) (by omega) hf, if_pos h3, Option.bind_some, if_pos (by omega)]) (Ev.now _))), by omega, Or.inl (by omega)⟩
      · exact ⟨v - (f.length : Int), Ev.congr (fun k => by rw [Option.bind_some, if_neg h1]) (Ev.bind e1 (Ev.congr (fun k => by rw [if_neg h2, szBoolS_v f v (by omega) (by omega) hf, if_neg h3, Option.bind_some, if_neg h3]) (Ev.now _))), by omega, Or.inr ⟨by omega, by omega, fun r hr => by have := g2 r hr; omega, by omega⟩⟩
theorem toDfa_ev (c : List Int) (n : List (List Int)) (f : List Bool) (h : SmallDfa c n f) : Ev (fun k => laws_toDfa.f k c n f) (c, n, f) := by
  obtain ⟨h1, h2, h3, h4⟩ := h
  unfold laws_toDfa.f
  exact Ev.bind (toIntS_ev c (by omega)) (Ev.bind (toIntSS_ev n (by omega) (fun r hr => by have := h3 r hr; omega)) (Ev.bind (toBoolS_ev f (by omega)) (Ev.now _)))
theorem eqDfa_ev (c : List Int) (n : List (List Int)) (f : List Bool) (h : SmallDfa c n f) : Ev (fun k => laws_eqDfa.f k c n f c n f) true := by
  obtain ⟨h1, h2, h3, h4⟩ := h
  unfold laws_eqDfa.f
  refine Ev.bind (eqIntS_ev c c (by omega)) (Ev.congr (fun k => by rw [if_pos (by simp)]) (Ev.bind (eqIntSS_ev n (by omega) (fun r hr => by have := h3 r hr; omega)) (Ev.congr (fun k => by rw [if_pos rfl]) (Ev.bind (eqBoolS_ev f (by omega)) (Ev.congr (fun k => by rw [if_pos rfl]) (Ev.now _))))))
/-- Rising, behind p (none: the first), within bounds. -/
def ahead : Option Int → Int → Bool
  | none, _ => true
  | some q, x => decide (q < x)
def RisV (lo hi : Int) : Option Int → List Int → Bool
  | _, [] => true
  | p, x :: r => inB lo hi x && ahead p x && RisV lo hi (some x) r
def prev (l : List Int) (j : Nat) : Option Int := if j = 0 then none else some (l.getD (j - 1) 0)
theorem prev_succ (l : List Int) (j : Nat) (h : j < l.length) : prev l (j + 1) = some (l[j]) := by
  unfold prev
  rw [if_neg (by omega), Nat.add_sub_cancel, getD_at l j h]

theorem specRis_l (l : List Int) (lo hi : Int) (hl : l.length ≤ 1099511627776) : ∀ (d j : Nat), j + d = l.length → Ev (fun k => spec_l1Rising.l0 k l lo hi l (l.length : Int) (j : Int)) (RisV lo hi (prev l j) (l.drop j)) := by
  intro d
  induction d with
  | zero =>
    intro j hj
    refine Ev.step (f := fun _ => some true) (fun k => ?_) (by rw [List.drop_of_length_le (by omega)]; exact Ev.now _)
    simp only [spec_l1Rising.l0]
    rw [if_neg (by omega)]
  | succ d ih =>
    intro j hj
    have hj' : j < l.length := by omega
    have e1 : wrap64 ((j : Int) + 1) = ((j + 1 : Nat) : Int) := by rw [wr _ (by omega) (by omega)]; omega
    have ih' := ih (j + 1) (by omega)
    rw [prev_succ l j hj'] at ih'
    rw [drop_at l j hj', RisV]
    refine Ev.step (fun k => by simp only [spec_l1Rising.l0]; rw [if_pos (by omega), if_pos (by omega), if_pos (by omega), rd_at l j hj', in_s, Option.bind_some, e1]) ?_
    cases inB lo hi (l[j]'hj') with
    | false => exact Ev.congr (fun k => by rw [if_neg (by simp)]) (by simpa using Ev.now false)
    | true =>
      by_cases hz : j = 0
      · refine Ev.congr (fun k => by rw [if_pos rfl, if_neg (by omega)]) ?_
        unfold prev
        rw [if_pos hz]
        simpa [ahead] using ih'
      · have e2 : wrap64 ((j : Int) - 1) = ((j - 1 : Nat) : Int) := by rw [wr _ (by omega) (by omega)]; omega
        have ep : prev l j = some (l[j - 1]'(by omega)) := by unfold prev; rw [if_neg hz, getD_at l (j - 1) (by omega)]
        rw [ep]
        refine Ev.congr (fun k => by rw [if_pos rfl, if_pos (by omega), e2, if_pos (by omega), if_pos (by omega), rd_at l (j - 1) (by omega)]) ?_
        by_cases c : l[j - 1]'(by omega) ≥ l[j]'hj'
        · refine Ev.congr (fun k => by rw [if_pos c]) ?_
          rw [show ahead (some (l[j - 1]'(by omega))) (l[j]'hj') = false from decide_eq_false (by omega)]
          simpa using Ev.now false
        · refine Ev.congr (fun k => by rw [if_neg c]) ?_
          rw [show ahead (some (l[j - 1]'(by omega))) (l[j]'hj') = true from decide_eq_true (by omega)]
          simpa using ih'
theorem implRis_l (l : List Int) (lo hi : Int) (hl : l.length ≤ 1099511627776) : ∀ (d j : Nat), j + d = l.length → Ev (fun k => impl_isRising.l0 k l lo hi l (l.length : Int) (j : Int)) (RisV lo hi (prev l j) (l.drop j)) := by
  intro d
  induction d with
  | zero =>
    intro j hj
    refine Ev.step (f := fun _ => some true) (fun k => ?_) (by rw [List.drop_of_length_le (by omega)]; exact Ev.now _)
    simp only [impl_isRising.l0]
    rw [if_neg (by omega)]
  | succ d ih =>
    intro j hj
    have hj' : j < l.length := by omega
    have e1 : wrap64 ((j : Int) + 1) = ((j + 1 : Nat) : Int) := by rw [wr _ (by omega) (by omega)]; omega
    have ih' := ih (j + 1) (by omega)
    rw [prev_succ l j hj'] at ih'
    rw [drop_at l j hj', RisV]
    refine Ev.step (fun k => by simp only [impl_isRising.l0]; rw [if_pos (by omega), if_pos (by omega), if_pos (by omega), rd_at l j hj', in_i, Option.bind_some, e1]) ?_
    cases inB lo hi (l[j]'hj') with
    | false => exact Ev.congr (fun k => by rw [if_neg (by simp)]) (by simpa using Ev.now false)
    | true =>
      by_cases hz : j = 0
      · refine Ev.congr (fun k => by rw [if_pos rfl, if_neg (by omega)]) ?_
        unfold prev
        rw [if_pos hz]
        simpa [ahead] using ih'
      · have e2 : wrap64 ((j : Int) - 1) = ((j - 1 : Nat) : Int) := by rw [wr _ (by omega) (by omega)]; omega
        have ep : prev l j = some (l[j - 1]'(by omega)) := by unfold prev; rw [if_neg hz, getD_at l (j - 1) (by omega)]
        rw [ep]
        refine Ev.congr (fun k => by rw [if_pos rfl, if_pos (by omega), e2, if_pos (by omega), if_pos (by omega), rd_at l (j - 1) (by omega)]) ?_
        by_cases c : l[j - 1]'(by omega) ≥ l[j]'hj'
        · refine Ev.congr (fun k => by rw [if_pos c]) ?_
          rw [show ahead (some (l[j - 1]'(by omega))) (l[j]'hj') = false from decide_eq_false (by omega)]
          simpa using Ev.now false
        · refine Ev.congr (fun k => by rw [if_neg c]) ?_
          rw [show ahead (some (l[j - 1]'(by omega))) (l[j]'hj') = true from decide_eq_true (by omega)]
          simpa using ih'
def risV (l : List Int) (lo hi : Int) : Bool := RisV lo hi none l
theorem specRis_ev (l : List Int) (lo hi : Int) (hl : l.length ≤ 1099511627776) : Ev (fun k => spec_l1Rising.f k l lo hi) (risV l lo hi) :=
  Ev.congr (fun k => by unfold spec_l1Rising.f; rfl) (by simpa [prev, risV] using specRis_l l lo hi hl l.length 0 (by omega))
theorem implRis_ev (l : List Int) (lo hi : Int) (hl : l.length ≤ 1099511627776) : Ev (fun k => impl_isRising.f k l lo hi) (risV l lo hi) :=
  Ev.congr (fun k => by unfold impl_isRising.f; rfl) (by simpa [prev, risV] using implRis_l l lo hi hl l.length 0 (by omega))
/-- Is a machine good? -/
def rowsOk (n : Nat) (s : Int) (l : List (List Int)) : Bool := l.all fun r => decide (r.length = n + 1) && r.all (inB 0 (s - 1))
def GoodD (c : List Int) (n : List (List Int)) (f : List Bool) : Bool :=
  inB 1 60 (n.length : Int) && (decide (f.length = n.length) && (decide (c.length ≤ 40) && (risV c 1 1114111 && rowsOk c.length (n.length : Int) n)))

theorem specRows_l (c : List Int) (n : List (List Int)) (f : List Bool) (h : SmallDfa c n f) : ∀ (d j : Nat), j + d = n.length → Ev (fun k => spec_GoodDfa.l0 k (n.length : Int) n (n.length : Int) (j : Int) c n f) (rowsOk c.length (n.length : Int) (n.drop j)) := by
  obtain ⟨h1, h2, h3, h4⟩ := h
  intro d
  induction d with
  | zero =>
    intro j hj
    refine Ev.step (f := fun _ => some true) (fun k => ?_) (by rw [List.drop_of_length_le (by omega)]; exact Ev.now _)
    simp only [spec_GoodDfa.l0]
    rw [if_neg (by omega)]
  | succ d ih =>
    intro j hj
    have hj' : j < n.length := by omega
    have hr := h3 _ (List.getElem_mem hj')
    have e1 : wrap64 ((j : Int) + 1) = ((j + 1 : Nat) : Int) := by rw [wr _ (by omega) (by omega)]; omega
    have key : rowsOk c.length (n.length : Int) (n.drop j) = (decide ((n[j]'hj').length = c.length + 1) && (n[j]'hj').all (inB 0 ((n.length : Int) - 1)) && rowsOk c.length (n.length : Int) (n.drop (j + 1))) := by
      rw [List.drop_eq_getElem_cons hj']; rfl
    rw [key]
    refine Ev.step (fun k => by simp only [spec_GoodDfa.l0]; rw [if_pos (by omega), if_pos (by omega), if_pos (by omega), rdL_at n j hj', wr ((c.length : Int) + 1) (by omega) (by omega), wr ((n.length : Int) - 1) (by omega) (by omega), e1]) ?_
    by_cases c1 : (n[j]'hj').length = c.length + 1
    · refine Ev.congr (fun k => by rw [if_pos (by omega)]) (Ev.bind (l1All_ev (n[j]'hj') (by omega) 0 ((n.length : Int) - 1)) ?_)
      rw [decide_eq_true c1]
      cases (n[j]'hj').all (inB 0 ((n.length : Int) - 1)) with
      | false => exact Ev.congr (fun k => by rw [if_neg (by simp)]) (by simpa using Ev.now false)
      | true => exact Ev.congr (fun k => by rw [if_pos rfl]) (by simpa using ih (j + 1) (by omega))
    · rw [decide_eq_false c1]
      exact Ev.congr (fun k => by rw [if_neg (by omega)]) (by simpa using Ev.now false)

theorem specGoodD_ev (c : List Int) (n : List (List Int)) (f : List Bool) (h : SmallDfa c n f) : Ev (fun k => spec_GoodDfa.f k c n f) (GoodD c n f) := by
  have h' := h
  obtain ⟨h1, h2, h3, h4⟩ := h
  have bad : Ev (fun k => spec_GoodDfa.j0 k (n.length : Int) true c n f) false := Ev.step (f := fun _ => some false) (fun k => by simp [spec_GoodDfa.j0]) (Ev.now _)
  unfold spec_GoodDfa.f GoodD
  rw [in_s]
  refine Ev.bind (Ev.now _) ?_
  cases inB 1 60 (n.length : Int) with
  | false => exact Ev.congr (fun k => by rw [if_neg (by simp)]) (by simpa using bad)
  | true =>
    refine Ev.congr (fun k => by rw [if_pos rfl]) ?_
    rw [Bool.true_and]
    by_cases c1 : f.length = n.length
    · refine Ev.congr (fun k => by rw [if_pos (by omega)]) ?_
      rw [decide_eq_true c1, Bool.true_and]
      by_cases c2 : c.length ≤ 40
      · refine Ev.congr (fun k => by rw [if_neg (by omega)]) (Ev.bind (specRis_ev c 1 1114111 (by omega)) ?_)
        rw [decide_eq_true c2, Bool.true_and]
        cases risV c 1 1114111 with
        | false => simpa using bad
        | true =>
          refine Ev.step (f := fun k => spec_GoodDfa.l0 k (n.length : Int) n (n.length : Int) ((0 : Nat) : Int) c n f) (fun k => by simp [spec_GoodDfa.j0]) ?_
          simpa using specRows_l c n f h' n.length 0 (by omega)
      · rw [decide_eq_false c2, Bool.false_and]
        exact Ev.congr (fun k => by rw [if_pos (by omega)]) bad
    · rw [decide_eq_false c1, Bool.false_and]
      exact Ev.congr (fun k => by rw [if_neg (by omega)]) bad

theorem badRow_eq (n : Nat) (s : Int) (hs : 0 ≤ s ∧ s ≤ 1048576) (hn : n ≤ 1048576) (l : List (List Int)) : (!l.any (badRowV n s)) = rowsOk n s l := by
  unfold rowsOk
  rw [List.not_any_eq_all_not]
  congr 1
  funext r
  unfold badRowV
  rw [Bool.not_or]
  congr 1
  · rw [Bool.eq_iff_iff, Bool.not_eq_true', decide_eq_false_iff_not, decide_eq_true_eq]
    omega
  · rw [List.not_any_eq_all_not]
    congr 1
    funext x
    unfold badPlaceV inB
    rw [wr (s - 1) (by omega) (by omega), Bool.not_not]

theorem implGoodD_ev (c : List Int) (n : List (List Int)) (f : List Bool) (h : SmallDfa c n f) : Ev (fun k => impl_GoodDfa.f k c n f) (GoodD c n f) := by
  obtain ⟨h1, h2, h3, h4⟩ := h
  unfold impl_GoodDfa.f GoodD
  rw [← badRow_eq c.length (n.length : Int) ⟨by omega, by omega⟩ h1 n]
  by_cases c2 : c.length ≤ 40
  · refine Ev.congr (fun k => by rw [if_pos (by omega)]) (Ev.bind (implRis_ev c 1 1114111 (by omega)) ?_)
    rw [decide_eq_true c2, Bool.true_and]
    cases risV c 1 1114111 with
    | false => exact Ev.congr (fun k => by rw [if_neg (by simp)]) (by simpa using Ev.now false)
    | true =>
      refine Ev.congr (fun k => by rw [if_pos rfl]) ?_
      rw [Bool.true_and]
      by_cases c3 : 1 ≤ (n.length : Int) ∧ (n.length : Int) ≤ 60
      · refine Ev.congr (fun k => by rw [if_pos c3]) ?_
        rw [(inB_iff 1 60 _).2 c3, Bool.true_and]
        by_cases c1 : f.length = n.length
        · rw [decide_eq_true c1, Bool.true_and]
          exact Ev.congr (fun k => by rw [if_pos c1]) (Ev.now _)
        · rw [decide_eq_false c1, Bool.false_and]
          exact Ev.congr (fun k => by rw [if_neg c1]) (Ev.now _)
      · refine Ev.congr (fun k => by rw [if_neg c3]) ?_
        rw [show inB 1 60 (n.length : Int) = false from by cases e : inB 1 60 (n.length : Int) with | false => rfl | true => exact absurd ((inB_iff _ _ _).1 e) c3, Bool.false_and]
        exact Ev.now _
  · rw [decide_eq_false c2, Bool.false_and, Bool.and_false, Bool.and_false]
    exact Ev.congr (fun k => by rw [if_neg (by omega)]) (Ev.now _)
theorem goodD_facts (c : List Int) (n : List (List Int)) (f : List Bool) (h : GoodD c n f = true) : 1 ≤ n.length ∧ n.length ≤ 60 ∧ f.length = n.length ∧ c.length ≤ 40 ∧ risV c 1 1114111 = true ∧ True ∧ ∀ r ∈ n, r.length = c.length + 1 ∧ ∀ x ∈ r, 0 ≤ x ∧ x ≤ (n.length : Int) - 1 := by
  unfold GoodD at h
  simp only [Bool.and_eq_true, decide_eq_true_eq, inB_iff] at h
  obtain ⟨⟨h1, h2⟩, h3, h4, h5, h6⟩ := h
  refine ⟨by omega, by omega, h3, h4, h5, trivial, fun r hr => ?_⟩
  unfold rowsOk at h6
  have := List.all_eq_true.1 h6 r hr
  rw [Bool.and_eq_true, decide_eq_true_eq] at this
  exact ⟨this.1, fun x hx => (inB_iff _ _ _).1 (List.all_eq_true.1 this.2 x hx)⟩
theorem ownIs_v (l : List Int) (h : l.length ≤ 1099511627776) : spec_l1Own.f l = some l := by
  unfold spec_l1Own.f
  rw [Option.bind_some, if_pos (by simp; omega)]
  simp
theorem has_l (l : List Int) (x : Int) (hl : l.length ≤ 1000000) : ∀ (d j : Nat), j + d = l.length → (∀ i : Nat, i < j → l.getD i 0 ≠ x) → Ev (fun k => spec_l1Has.l0 k x l (l.length : Int) (j : Int)) (decide (x ∈ l)) := by
  intro d
  induction d with
  | zero =>
    intro j hj h
    have : decide (x ∈ l) = false := decide_eq_false fun hm => by
      obtain ⟨i, hi, e⟩ := List.getElem_of_mem hm
      exact h i (by omega) (by rw [getD_at l i hi]; exact e)
    rw [this]
    refine Ev.step (f := fun _ => some false) (fun k => ?_) (Ev.now _)
    simp only [spec_l1Has.l0]
    rw [if_neg (by omega)]
  | succ d ih =>
    intro j hj h
    have hj' : j < l.length := by omega
    have e1 : wrap64 ((j : Int) + 1) = ((j + 1 : Nat) : Int) := by rw [wr _ (by omega) (by omega)]; omega
    by_cases e : l[j] = x
    · have : decide (x ∈ l) = true := decide_eq_true (e ▸ List.getElem_mem hj')
      rw [this]
      refine Ev.step (f := fun _ => some true) (fun k => ?_) (Ev.now _)
      simp only [spec_l1Has.l0]
      rw [if_pos (by omega), if_pos (by omega), if_pos (by omega), rd_at l j hj', if_pos e]
    · refine Ev.step (fun k => ?_) (ih (j + 1) (by omega) (fun i hi => ?_))
      · simp only [spec_l1Has.l0]
        rw [if_pos (by omega), if_pos (by omega), if_pos (by omega), rd_at l j hj', if_neg e, e1]
      · by_cases g : i = j
        · subst g; rw [getD_at l i hj']; exact e
        · exact h i (by omega)
theorem has_ev (l : List Int) (x : Int) (hl : l.length ≤ 1000000) : Ev (fun k => spec_l1Has.f k l x) (decide (x ∈ l)) :=
  Ev.congr (fun k => by unfold spec_l1Has.f; rfl) (has_l l x hl l.length 0 (by omega) (fun i hi => by omega))
/-- How the reference's walk and the program's stand to each other. -/
structure Rl (n : Nat) (words : List (List Int)) (states : List Int) (i : Nat) (todo : List S77) (seen : List Bool) : Prop where
  wl : words.length = states.length
  il : i ≤ states.length
  td : todo = List.zipWith S77.mk (states.drop i) (words.drop i)
  sl : seen.length = n
  sn : ∀ s : Nat, s < n → seen.getD s false = decide ((s : Int) ∈ states)
  rg : ∀ x ∈ states, 0 ≤ x ∧ x < (n : Int)
  ct : states.length + seen.count false = n
  ln : ∀ j, (words.getD j []).length ≤ j
theorem count_set : ∀ (s : List Bool) (j : Nat), j < s.length → s.getD j false = false → (s.set j true).count false + 1 = s.count false
  | [], j, h, _ => by simp at h
  | a :: s, 0, _, e => by
    simp at e
    subst e
    simp
  | a :: s, j + 1, h, e => by
    have ih := count_set s j (by simpa using h) (by simpa using e)
    simp only [List.set_cons_succ, List.count_cons]
    omega
theorem rdOf_n (s : List Bool) (j : Nat) : rdOf false s (j : Int) = s.getD j false := by unfold rdOf; simp
theorem Rl.push {n : Nat} {words : List (List Int)} {states : List Int} {i : Nat} {todo : List S77} {seen : List Bool} (h : Rl n words states i todo seen) {q : Nat} (hq : q < n) (hs : seen.getD q false = false) {w : List Int} (hw : w.length ≤ words.length) : Rl n (words ++ [w]) (states ++ [(q : Int)]) i (todo ++ [⟨(q : Int), w⟩]) (seen.set q true) := by
  have hil := h.il
  have hwl := h.wl
  refine ⟨by simp [h.wl], by simp; omega, ?_, by simp [h.sl], fun s hsn => ?_, fun x hx => ?_, ?_, fun j => ?_⟩
  · rw [List.drop_append_of_le_length hil, List.drop_append_of_le_length (by omega), List.zipWith_append (by simp [hwl]), h.td]; rfl
  · by_cases e : s = q
    · subst e
      rw [List.getD_eq_getElem?_getD, List.getElem?_set_self (by rw [h.sl]; exact hsn)]
      simp
    · rw [List.getD_eq_getElem?_getD, List.getElem?_set_ne (fun g => e g.symm), ← List.getD_eq_getElem?_getD, h.sn s hsn]
      rw [decide_eq_decide]
      simp only [List.mem_append, List.mem_singleton]
      exact ⟨.inl, fun g => g.elim id (fun g => absurd (Int.ofNat.inj g) e)⟩
  · rcases List.mem_append.1 hx with g | g
    · exact h.rg x g
    · rw [List.mem_singleton] at g; omega
  · have := h.ct
    have := count_set seen q (by rw [h.sl]; exact hq) hs
    simp; omega
  · by_cases e : j < words.length
    · rw [List.getD_eq_getElem?_getD, List.getElem?_append_left e, ← List.getD_eq_getElem?_getD]; exact h.ln j
    · by_cases g : j = words.length
      · subst g; simp; omega
      · rw [List.getD_eq_getElem?_getD, List.getElem?_eq_none (by simp; omega)]; simp
theorem l1_true (k : Nat) (words : List (List Int)) (states : List Int) (i : Int) (row : List Int) (n j j2 : Int) (c : List Int) (nx : List (List Int)) (f : List Bool) (h1 : j < n) (h2 : 0 ≤ j) (h3 : j < (row.length : Int)) (q : Int) (hq : rd row j = q) (hb : spec_l1Has.f k states q = some true) (hj : wrap64 (j + 1) = j2) : spec_l6Short.l1 (k + 1) words states i row n j c nx f = spec_l6Short.l1 k words states i row n j2 c nx f := by
  simp only [spec_l6Short.l1]
  rw [if_pos h1, if_pos h2, if_pos h3, hq, hb, Option.bind_some, if_pos rfl, hj]
theorem l1_new0 (k : Nat) (words : List (List Int)) (states : List Int) (i : Int) (row : List Int) (n j j2 : Int) (c : List Int) (nx : List (List Int)) (f : List Bool) (h1 : j < n) (h2 : 0 ≤ j) (h3 : j < (row.length : Int)) (q : Int) (hq : rd row j = q) (hb : spec_l1Has.f k states q = some false) (hj : wrap64 (j + 1) = j2) (hj0 : ¬ j > 0) (s1 : states.length < 17592186044416) (i0 : 0 ≤ i) (i1 : i < (words.length : Int)) (w : List Int) (hw : spec_l1Own.f (rd_L1 words i) = some w) (w1 : w.length < 17592186044416) (w2 : words.length < 5864062014805) : spec_l6Short.l1 (k + 1) words states i row n j c nx f = spec_l6Short.l1 k (words ++ [w ++ [0]]) (states ++ [q]) i row n j2 c nx f := by
  simp only [spec_l6Short.l1]
  rw [if_pos h1, if_pos h2, if_pos h3, hq, hb, Option.bind_some, if_neg (by simp), if_neg hj0, if_pos s1, if_pos i0, if_pos i1, hw, Option.bind_some, if_pos w1, if_pos w2, hj]
theorem l1_new1 (k : Nat) (words : List (List Int)) (states : List Int) (i : Int) (row : List Int) (n j j2 j3 : Int) (c : List Int) (nx : List (List Int)) (f : List Bool) (h1 : j < n) (h2 : 0 ≤ j) (h3 : j < (row.length : Int)) (q : Int) (hq : rd row j = q) (hb : spec_l1Has.f k states q = some false) (hj : wrap64 (j + 1) = j2) (hj0 : j > 0) (h4 : wrap64 (j - 1) = j3) (c0 : 0 ≤ j3) (c1 : j3 < (c.length : Int)) (s1 : states.length < 17592186044416) (i0 : 0 ≤ i) (i1 : i < (words.length : Int)) (w : List Int) (hw : spec_l1Own.f (rd_L1 words i) = some w) (w1 : w.length < 17592186044416) (w2 : words.length < 5864062014805) : spec_l6Short.l1 (k + 1) words states i row n j c nx f = spec_l6Short.l1 k (words ++ [w ++ [rd c j3]]) (states ++ [q]) i row n j2 c nx f := by
  simp only [spec_l6Short.l1]
  rw [if_pos h1, if_pos h2, if_pos h3, hq, hb, Option.bind_some, if_neg (by simp), if_pos hj0, h4, if_pos c0, if_pos c1, if_pos s1, if_pos i0, if_pos i1, hw, Option.bind_some, if_pos w1, if_pos w2, hj]
theorem pred_lt {j n m : Nat} (h0 : ¬ j = 0) (h : j < n) (e : n = m + 1) : j - 1 < m := by omega
theorem pred_w (j : Nat) (h : ¬ j = 0) (hj : j ≤ 1000) : wrap64 ((j : Int) - 1) = ((j - 1 : Nat) : Int) := by
  rw [wr _ (by omega) (by omega)]; omega
theorem inner_ev (c : List Int) (nx : List (List Int)) (f : List Bool) (h : GoodD c nx f = true) (row : List Int) (hrow : row.length = c.length + 1) (hent : ∀ x ∈ row, 0 ≤ x ∧ x < (nx.length : Int)) (i : Nat) (lst : List Int) :
    ∀ (d j : Nat), j + d = row.length → ∀ (words : List (List Int)) (states : List Int) (todo : List S77) (seen : List Bool), Rl nx.length words states (i + 1) todo seen → words.getD i [] = lst →
    ∃ words' states' todo' seen', Rl nx.length words' states' (i + 1) todo' seen' ∧ shI c lst row d j todo seen = some (todo', seen') ∧ ∀ r, Ev (fun k => spec_l6Short.l0 k words' states' ((i + 1 : Nat) : Int) c nx f) r → Ev (fun k => spec_l6Short.l1 k words states (i : Int) row (row.length : Int) (j : Int) c nx f) r := by
  obtain ⟨h1, h2, h3, h4, h5, h6, h7⟩ := goodD_facts c nx f h
  intro d
  induction d with
  | zero =>
    intro j hj words states todo seen hR hw
    have hil := hR.il
    have hct := hR.ct
    refine ⟨words, states, todo, seen, hR, rfl, fun r hr => Ev.step (fun k => ?_) hr⟩
    simp only [spec_l6Short.l1]
    rw [if_neg (by omega), show wrap64 ((i : Int) + 1) = ((i + 1 : Nat) : Int) from by rw [wr _ (by omega) (by omega)]; omega]
  | succ d ih =>
    intro j hj words states todo seen hR hw
    have hj' : j < row.length := by omega
    have hil := hR.il
    have hct := hR.ct
    have hwl := hR.wl
    have e1 : wrap64 ((j : Int) + 1) = ((j + 1 : Nat) : Int) := by rw [wr _ (by omega) (by omega)]; omega
    obtain ⟨g1, g2⟩ := hent _ (List.getElem_mem hj')
    obtain ⟨q, hq⟩ : ∃ q : Nat, row[j] = (q : Int) := ⟨(row[j]).toNat, by omega⟩
    have hqn : q < nx.length := by omega
    have hgd : row.getD j 0 = (q : Int) := by rw [getD_at row j hj', hq]
    have hrd : rd row (j : Int) = (q : Int) := by rw [rd_at row j hj', hq]
    have hsl := hR.sl
    have hsn := hR.sn q hqn
    have hhas := has_ev states (q : Int) (by omega)
    cases hs : seen.getD q false with
    | true =>
      rw [hs] at hsn
      obtain ⟨words', states', todo', seen', a1, a2, a3⟩ := ih (j + 1) (by omega) words states todo seen hR hw
      refine ⟨words', states', todo', seen', a1, ?_, fun r hr => ?_⟩
      · rw [shI, hgd, if_pos ⟨by omega, by omega⟩, rdOf_n, if_pos hs]; exact a2
      · rw [← hsn] at hhas
        obtain ⟨K1, b1⟩ := hhas
        obtain ⟨K2, b2⟩ := a3 r hr
        refine ⟨K1 + K2 + 1, fun k hk => ?_⟩
        obtain ⟨k', rfl⟩ : ∃ k', k = k' + 1 := ⟨k - 1, by omega⟩
        have b3 := b1 k' (by omega)
        have b4 := b2 k' (by omega)
        dsimp only at b3 b4
        show spec_l6Short.l1 (k' + 1) words states (i : Int) row (row.length : Int) (j : Int) c nx f = some r
        exact (l1_true k' words states (i : Int) row (row.length : Int) (j : Int) ((j + 1 : Nat) : Int) c nx f (Int.ofNat_lt.2 hj') (Int.natCast_nonneg _) (Int.ofNat_lt.2 hj') (q : Int) hrd b3 e1).trans b4
    | false =>
      rw [hs] at hsn
      have hlw : lst.length ≤ i := by rw [← hw]; exact hR.ln i
      have hR2 := hR.push hqn hs (w := lst ++ [if j = 0 then 0 else c.getD (j - 1) 0]) (by simp; omega)
      obtain ⟨words', states', todo', seen', a1, a2, a3⟩ := ih (j + 1) (by omega) _ _ _ _ hR2 (by rw [List.getD_eq_getElem?_getD, List.getElem?_append_left (by omega), ← List.getD_eq_getElem?_getD]; exact hw)
      have htl : todo.length ≤ 1000 := by rw [hR.td]; simp; omega
      refine ⟨words', states', todo', seen', a1, ?_, fun r hr => ?_⟩
      · rw [shI, hgd, if_pos ⟨by omega, by omega⟩, rdOf_n, if_neg (by rw [hs]; simp), if_pos (show (j = 0 ∨ j - 1 < c.length) ∧ lst.length < 1099511627776 ∧ todo.length < 1099511627776 from ⟨(Decidable.em (j = 0)).imp id (fun h0 => pred_lt h0 hj' hrow), by omega, by omega⟩), Int.toNat_natCast]; exact a2
      · rw [← hsn] at hhas
        have hwi : rd_L1 words (i : Int) = lst := by unfold rd_L1; simpa using hw
        have hown := ownIs_v lst (by omega)
        obtain ⟨K1, b1⟩ := hhas
        obtain ⟨K2, b2⟩ := a3 r hr
        refine ⟨K1 + K2 + 1, fun k hk => ?_⟩
        obtain ⟨k', rfl⟩ : ∃ k', k = k' + 1 := ⟨k - 1, by omega⟩
        have b3 := b1 k' (by omega)
        have b4 := b2 k' (by omega)
        dsimp only at b3 b4
        show spec_l6Short.l1 (k' + 1) words states (i : Int) row (row.length : Int) (j : Int) c nx f = some r
        have y1 : j ≤ 1000 := Nat.le_trans (Nat.le_of_lt hj') (by rw [hrow]; exact Nat.le_trans (Nat.succ_le_succ h4) (by decide))
        have y0 : states.length ≤ 60 := Nat.le_trans (Nat.le_of_add_right_le (Nat.le_of_eq hct)) h2
        have y2 : states.length < 17592186044416 := Nat.lt_of_le_of_lt y0 (by decide)
        have y3 : i < words.length := by rw [hwl]; exact hil
        have y4 : lst.length < 17592186044416 := Nat.lt_of_le_of_lt hlw (Nat.lt_trans hil y2)
        have y5 : words.length < 5864062014805 := by rw [hwl]; exact Nat.lt_of_le_of_lt y0 (by decide)
        by_cases j0 : j = 0
        · subst j0
          rw [if_pos rfl] at b4
          exact (l1_new0 k' words states (i : Int) row (row.length : Int) ((0 : Nat) : Int) ((0 + 1 : Nat) : Int) c nx f (Int.ofNat_lt.2 hj') (Int.natCast_nonneg _) (Int.ofNat_lt.2 hj') (q : Int) hrd b3 e1 (by decide) y2 (Int.natCast_nonneg _) (Int.ofNat_lt.2 y3) lst (by rw [hwi]; exact hown) y4 y5).trans b4
        · rw [if_neg j0] at b4
          have y6 := pred_lt j0 hj' hrow
          have e2 : wrap64 ((j : Int) - 1) = ((j - 1 : Nat) : Int) := pred_w j j0 y1
          have e3 : rd c ((j - 1 : Nat) : Int) = c.getD (j - 1) 0 := by unfold rd; simp
          have e4 := l1_new1 k' words states (i : Int) row (row.length : Int) (j : Int) ((j + 1 : Nat) : Int) ((j - 1 : Nat) : Int) c nx f (Int.ofNat_lt.2 hj') (Int.natCast_nonneg _) (Int.ofNat_lt.2 hj') (q : Int) hrd b3 e1 (Int.ofNat_lt.2 (Nat.pos_of_ne_zero j0)) e2 (Int.natCast_nonneg _) (Int.ofNat_lt.2 y6) y2 (Int.natCast_nonneg _) (Int.ofNat_lt.2 y3) lst (by rw [hwi]; exact hown) y4 y5
          rw [e3] at e4
          exact e4.trans b4
theorem outer_ev (c : List Int) (nx : List (List Int)) (f : List Bool) (h : GoodD c nx f = true) : ∀ (m i : Nat), nx.length ≤ m + i → ∀ (words : List (List Int)) (states : List Int) (todo : List S77) (seen : List Bool), Rl nx.length words states i todo seen →
    ∃ b, (∀ k, m < k → shO c nx f k todo seen = some b) ∧ ∃ l, Ev (fun k => spec_l6Short.l0 k words states (i : Int) c nx f) (l, b) := by
  obtain ⟨h1, h2, h3, h4, h5, h6, h7⟩ := goodD_facts c nx f h
  intro m
  induction m with
  | zero =>
    intro i hm words states todo seen hR
    have hil := hR.il
    have hct := hR.ct
    have ht : todo = [] := by rw [hR.td, List.drop_of_length_le (by omega)]; rfl
    subst ht
    refine ⟨false, fun k hk => ?_, [], Ev.step (f := fun _ => some ([], false)) (fun k => ?_) (Ev.now _)⟩
    · obtain ⟨k', rfl⟩ : ∃ k', k = k' + 1 := ⟨k - 1, by omega⟩
      rfl
    · simp only [spec_l6Short.l0]
      rw [if_neg (by omega)]
  | succ m ih =>
    intro i hm words states todo seen hR
    have hil := hR.il
    have hct := hR.ct
    have hwl := hR.wl
    by_cases hi : i < states.length
    · have hi2 : i < words.length := by omega
      obtain ⟨g1, g2⟩ := hR.rg _ (List.getElem_mem hi)
      obtain ⟨q, hq⟩ : ∃ q : Nat, states[i] = (q : Int) := ⟨(states[i]).toNat, by omega⟩
      have hqn : q < nx.length := by omega
      have hrd : rd states (i : Int) = (q : Int) := by rw [rd_at states i hi, hq]
      have ht : todo = ⟨(q : Int), words[i]⟩ :: List.zipWith S77.mk (states.drop (i + 1)) (words.drop (i + 1)) := by
        rw [hR.td, List.drop_eq_getElem_cons hi, List.drop_eq_getElem_cons hi2, List.zipWith_cons_cons, hq]
      have hwi : words.getD i [] = words[i] := by simp [List.getD_eq_getElem?_getD, hi2]
      have hwl1 := hR.ln i
      rw [hwi] at hwl1
      have hwr : rd_L1 words (i : Int) = words[i] := by unfold rd_L1; simpa using hwi
      have hrow : rd_L1 nx (q : Int) = nx.getD q [] := by unfold rd_L1; simp
      have hown := ownIs_v words[i] (by omega)
      cases hf : f.getD q false with
      | true =>
        refine ⟨true, fun k hk => ?_, words[i], ?_⟩
        · obtain ⟨k', rfl⟩ : ∃ k', k = k' + 1 := ⟨k - 1, by omega⟩
          rw [ht, shO]; dsimp only; rw [if_pos ⟨by omega, by omega, by omega⟩, rdOf_n, if_pos hf]
        · refine Ev.step (f := fun _ => some (words[i], true)) (fun k => ?_) (Ev.now _)
          simp only [spec_l6Short.l0]
          rw [if_pos (by omega), if_pos (by omega), hrd, if_pos (by omega), if_pos (by omega), rdOf_n, if_pos hf, if_pos (by omega), hwr, hown, Option.bind_some]
      | false =>
        have hmem : nx.getD q [] ∈ nx := by rw [show nx.getD q [] = nx[q] from by simp [List.getD_eq_getElem?_getD, hqn]]; exact List.getElem_mem _
        obtain ⟨r1, r2⟩ := h7 _ hmem
        have hR1 : Rl nx.length words states (i + 1) (List.zipWith S77.mk (states.drop (i + 1)) (words.drop (i + 1))) seen := ⟨hwl, by omega, rfl, hR.sl, hR.sn, hR.rg, hct, hR.ln⟩
        obtain ⟨words', states', todo', seen', a1, a2, a3⟩ := inner_ev c nx f h (nx.getD q []) r1 (fun x hx => by have := r2 x hx; omega) i words[i] (nx.getD q []).length 0 (by omega) words states _ seen hR1 hwi
        obtain ⟨b, b1, l, b2⟩ := ih (i + 1) (by omega) words' states' todo' seen' a1
        refine ⟨b, fun k hk => ?_, l, ?_⟩
        · obtain ⟨k', rfl⟩ : ∃ k', k = k' + 1 := ⟨k - 1, by omega⟩
          rw [ht, shO]; dsimp only; rw [if_pos ⟨by omega, by omega, by omega⟩, rdOf_n, if_neg (by rw [hf]; simp), Int.toNat_natCast, a2, Option.bind_some]
          exact b1 k' (by omega)
        · refine Ev.step (fun k => ?_) (a3 _ b2)
          simp only [spec_l6Short.l0]
          rw [if_pos (by omega), if_pos (by omega), hrd, if_pos (by omega), if_pos (by omega), rdOf_n, if_neg (by rw [hf]; simp), if_pos (by omega), hrow]
          rfl
    · have ht : todo = [] := by rw [hR.td, List.drop_of_length_le (by omega)]; rfl
      subst ht
      refine ⟨false, fun k hk => ?_, [], Ev.step (f := fun _ => some ([], false)) (fun k => ?_) (Ev.now _)⟩
      · obtain ⟨k', rfl⟩ : ∃ k', k = k' + 1 := ⟨k - 1, by omega⟩
        rfl
      · simp only [spec_l6Short.l0]
        rw [if_neg (by omega)]
theorem short_ev (c : List Int) (nx : List (List Int)) (f : List Bool) (h : GoodD c nx f = true) : ∃ b l, Ev (fun k => impl_shortIn.f k c nx f) b ∧ Ev (fun k => spec_l6Short.f k c nx f) (l, b) := by
  obtain ⟨h1, h2, h3, h4, h5, h6, h7⟩ := goodD_facts c nx f h
  have hR : Rl nx.length [[]] [0] 0 [⟨0, []⟩] ((List.replicate nx.length false).set 0 true) := by
    refine ⟨rfl, by simp, rfl, by simp, fun s hs => ?_, fun x hx => by simp at hx; omega, ?_, fun j => ?_⟩
    · by_cases e : s = 0
      · subst e
        rw [List.getD_eq_getElem?_getD, List.getElem?_set_self (by simpa using hs)]; simp
      · rw [List.getD_eq_getElem?_getD, List.getElem?_set_ne (fun g => e g.symm), List.getElem?_replicate_of_lt hs]
        symm
        simp; omega
    · have := count_set (List.replicate nx.length false) 0 (by simp; omega) (by rw [List.getD_eq_getElem?_getD, List.getElem?_replicate_of_lt (by omega)]; rfl)
      rw [List.count_replicate_self] at this
      simp only [List.length_singleton]; omega
    · cases j <;> simp
  obtain ⟨b, b1, l, b2⟩ := outer_ev c nx f h nx.length 0 (by omega) _ _ _ _ hR
  refine ⟨b, l, ⟨nx.length + 1, fun k hk => ?_⟩, Ev.congr (fun k => by unfold spec_l6Short.f; rfl) b2⟩
  show impl_shortIn.f k c nx f = some b
  unfold impl_shortIn.f
  rw [if_pos ⟨by omega, by omega⟩]
  exact b1 k (by omega)
theorem noneD_both (c : List Int) (nx : List (List Int)) (f : List Bool) (h : SmallDfa c nx f) : ∃ q : Bool × Bool, Ev (fun k => spec_IsNoneDfa.f k c nx f) q ∧ Ev (fun k => impl_IsNoneDfa.f k c nx f) q := by
  have hs := specGoodD_ev c nx f h
  have hi := implGoodD_ev c nx f h
  cases hg : GoodD c nx f with
  | false =>
    rw [hg] at hs hi
    refine ⟨(false, false), ?_, ?_⟩
    · unfold spec_IsNoneDfa.f
      exact Ev.bind hs (Ev.congr (fun k => by rw [if_neg (by simp)]) (Ev.now _))
    · unfold impl_IsNoneDfa.f
      exact Ev.bind hi (Ev.congr (fun k => by rw [if_neg (by simp)]) (Ev.now _))
  | true =>
    rw [hg] at hs hi
    obtain ⟨b, l, e1, e2⟩ := short_ev c nx f hg
    refine ⟨(!b, true), ?_, ?_⟩
    · unfold spec_IsNoneDfa.f
      exact Ev.bind hs (Ev.congr (fun k => by rw [if_pos rfl]) (Ev.bind e2 (Ev.now _)))
    · unfold impl_IsNoneDfa.f
      exact Ev.bind hi (Ev.congr (fun k => by rw [if_pos rfl]) (Ev.bind e1 (Ev.now _)))
theorem FnExactIsNoneDfa (c : List Int) (n : List (List Int)) (f : List Bool) (hc : c.length ≤ 9223372036854775807) (hn : n.length ≤ 9223372036854775807) (hr : ∀ r ∈ n, r.length ≤ 9223372036854775807) (hf : f.length ≤ 9223372036854775807) : ∃ k, laws_FnExactIsNoneDfa.f k c n f = some true := by
  refine Ev.rounds (r := true) ?_
  unfold laws_FnExactIsNoneDfa.f
  obtain ⟨v, e1, _, e2⟩ := szDfa_ev c n f hc hn hr hf 1048576 (by omega) (by omega)
  refine Ev.bind e1 ?_
  by_cases h : v < 0
  · exact Ev.congr (fun k => by rw [if_pos h]) (Ev.now true)
  · have hs := e2.resolve_left h
    obtain ⟨⟨a, b⟩, cs, ci⟩ := noneD_both c n f hs
    have j0 : Ev (fun k => laws_FnExactIsNoneDfa.j0 k false c n f c n f) true := by
      refine Ev.step (fun k => by simp only [laws_FnExactIsNoneDfa.j0]; rw [if_neg (by simp)]) ?_
      refine Ev.bind (toDfa_ev c n f hs) (Ev.bind (eqDfa_ev c n f hs) ?_)
      exact Ev.congr (fun k => by rw [if_pos rfl]) (Ev.now true)
    refine Ev.congr (fun k => by rw [if_neg h]) (Ev.bind (toDfa_ev c n f hs) (Ev.bind cs (Ev.bind (toDfa_ev c n f hs) (Ev.bind ci ?_))))
    exact Ev.congr (fun k => by rw [if_neg (by simp), bne_self_eq_false]) j0

end Go.Proofs.Ytaeaeejfaffbpaa.Pure
