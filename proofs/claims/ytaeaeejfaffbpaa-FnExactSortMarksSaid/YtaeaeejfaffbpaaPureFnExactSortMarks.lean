/-
  For every input the law FnExactSortMarks returns true; no condition.
-/
import Derived.Test.YtaeaeejfaffbpaaHFnExactSortMarksx10
namespace Go.Proofs.Ytaeaeejfaffbpaa.Pure
open Go.RowKit Go.Proofs.Ytaeaeejfaffbpaa.HFnExactSortMarks Go.Proofs.YtaeaeejfaffbpaaW.PrintWords Go.Proofs.YtaeaeejfaffbpaaW.PrintLast
set_option linter.unusedSimpArgs false
set_option linter.unusedVariables false
theorem wr (i : Int) (h0 : -9223372036854775808 ≤ i) (h1 : i ≤ 9223372036854775807) : wrap64 i = i := by unfold wrap64; omega

theorem rd_nat (l : List Int) (j : Nat) : rd l (j : Int) = l.getD j 0 := by unfold rd; simp

theorem getD_at (l : List Int) (j : Nat) (h : j < l.length) : l.getD j 0 = l[j] := by simp [List.getD_eq_getElem?_getD, h]

theorem rd_at (l : List Int) (j : Nat) (h : j < l.length) : rd l (j : Int) = l[j] := by rw [rd_nat, getD_at l j h]

theorem drop_at (l : List Int) (j : Nat) (h : j < l.length) : l.drop j = l[j] :: l.drop (j + 1) := List.drop_eq_getElem_cons h

theorem toIntS_l (l : List Int) (hl : l.length ≤ 17592186044416) : ∀ (d j : Nat) (o : List Int), j + d = l.length → o.length = l.length → (∀ i, i < j → o.getD i 0 = l.getD i 0) → Ev (fun k => laws_toIntS.l0 k l o (j : Int)) l := by
  intro d
  induction d with
  | zero =>
    intro j o hj ho he
    refine Ev.step (f := fun _ => some l) (fun k => ?_) (Ev.now l)
    simp only [laws_toIntS.l0]
    rw [if_neg (by omega)]
    congr 1
    refine List.ext_getElem (by omega) fun i h1 h2 => ?_
    have := he i (by omega)
    rwa [getD_at o i h1, getD_at l i h2] at this
  | succ d ih =>
    intro j o hj ho he
    refine Ev.step (f := fun k => laws_toIntS.l0 k l (o.set j (l.getD j 0)) ((j + 1 : Nat) : Int)) (fun k => ?_) (ih (j + 1) _ (by omega) (by rw [List.length_set]; exact ho) fun i hi => ?_)
    · simp only [laws_toIntS.l0]
      rw [if_pos (by omega), if_pos (by omega), if_pos (by omega), wr _ (by omega) (by omega), rd_nat]
      simp
    · by_cases e : i = j
      · subst e
        rw [getD_at _ _ (by rw [List.length_set]; omega)]
        simp
      · rw [← he i (by omega)]
        simp [List.getD_eq_getElem?_getD, List.getElem?_set, Ne.symm e]

theorem toIntS_ev (l : List Int) (hl : l.length ≤ 17592186044416) : Ev (fun k => laws_toIntS.f k l) l := by
  refine Ev.congr (f := fun k => laws_toIntS.l0 k l (List.replicate l.length 0) ((0 : Nat) : Int)) (fun k => ?_) (toIntS_l l hl l.length 0 _ (by omega) (by simp) (fun i hi => by omega))
  unfold laws_toIntS.f
  rw [if_pos (by omega), if_pos (by omega)]
  simp

theorem eqIntS_l (a b : List Int) (hab : a.length = b.length) (hl : a.length ≤ 17592186044416) : ∀ (d j : Nat), j + d = a.length → a.take j = b.take j → Ev (fun k => laws_eqIntS.l0 k a b (j : Int)) (decide (a = b)) := by
  intro d
  induction d with
  | zero =>
    intro j hj ht
    refine Ev.step (f := fun _ => some (decide (a = b))) (fun k => ?_) (Ev.now _)
    simp only [laws_eqIntS.l0]
    rw [if_neg (by omega)]
    rw [List.take_of_length_le (by omega), List.take_of_length_le (by omega)] at ht
    simp [ht]
  | succ d ih =>
    intro j hj ht
    by_cases e : a[j]'(by omega) = b[j]'(by omega)
    · refine Ev.step (f := fun k => laws_eqIntS.l0 k a b ((j + 1 : Nat) : Int)) (fun k => ?_) (ih (j + 1) (by omega) ?_)
      · simp only [laws_eqIntS.l0]
        rw [if_pos (by omega), if_pos (by omega), if_pos (by omega), rd_at a j (by omega), rd_at b j (by omega), if_pos e, wr _ (by omega) (by omega)]
        simp
      · rw [List.take_succ_eq_append_getElem (by omega), List.take_succ_eq_append_getElem (by omega), ht, e]
    · refine Ev.step (f := fun _ => some (decide (a = b))) (fun k => ?_) (Ev.now _)
      simp only [laws_eqIntS.l0]
      rw [if_pos (by omega), if_pos (by omega), if_pos (by omega), rd_at a j (by omega), rd_at b j (by omega), if_neg e]
      have : ¬ a = b := fun h => e (by subst h; rfl)
      simp [this]

theorem eqIntS_ev (a b : List Int) (hl : a.length ≤ 17592186044416) : Ev (fun k => laws_eqIntS.f k a b) (decide (a = b)) := by
  by_cases h : a.length = b.length
  · refine Ev.congr (f := fun k => laws_eqIntS.l0 k a b ((0 : Nat) : Int)) (fun k => ?_) (eqIntS_l a b h hl a.length 0 (by omega) (by simp))
    unfold laws_eqIntS.f
    rw [if_pos (by omega)]
    simp
  · refine Ev.congr (f := fun _ => some (decide (a = b))) (fun k => ?_) (Ev.now _)
    unfold laws_eqIntS.f
    rw [if_neg (by omega)]
    have : ¬ a = b := fun e => h (by rw [e])
    simp [this]

/-- Within bounds. -/
def inB (lo hi n : Int) : Bool := decide (lo ≤ n ∧ n ≤ hi)
theorem inB_iff (lo hi n : Int) : inB lo hi n = true ↔ lo ≤ n ∧ n ≤ hi := by simp [inB]

theorem in_s (a b c : Int) : spec_l1In.f a b c = some (inB b c a) := by
  unfold spec_l1In.f inB
  by_cases h : a ≥ b
  · rw [if_pos h]; simp [show b ≤ a from h]
  · rw [if_neg h]; simp [show ¬ b ≤ a from h]

theorem in_i (a b c : Int) : impl_inRange.f a b c = some (inB b c a) := by
  unfold impl_inRange.f inB
  by_cases h : b ≤ a
  · rw [if_pos h]; simp [h]
  · rw [if_neg h]; simp [h]

def isR (a : Int) : Bool := inB 0 1114111 a && !inB 55296 57343 a
theorem gr_s (a : Int) : spec_GoodRune.f a = some (isR a) := by
  unfold spec_GoodRune.f isR
  rw [in_s, in_s]
  simp only [Option.bind_some]
  cases inB 0 1114111 a <;> simp

theorem gr_i (a : Int) : impl_GoodRune.f a = some (isR a) := by
  unfold impl_GoodRune.f isR
  rw [in_i, in_i]
  simp only [Option.bind_some]
  cases inB 0 1114111 a <;> simp

def iota (m : Int) (n : Nat) : List Int := (List.range n).map fun (i : Nat) => m + (i : Int)
theorem iota_length (m : Int) (n : Nat) : (iota m n).length = n := by simp [iota]
theorem iota_get (m : Int) (n i : Nat) (h : i < n) : (iota m n).getD i 0 = m + (i : Int) := by simp [iota, List.getD_eq_getElem?_getD, h]

theorem markIntS_l (m : Int) (n : Nat) (hm : 0 ≤ m) (hn : m + (n : Int) ≤ 4611686018427387904) : ∀ (d j : Nat) (o : List Int), j + d = n → o.length = n → (∀ i, i < j → o.getD i 0 = m + (i : Int)) → Ev (fun k => laws_markIntS.l0 k o (m + (j : Int)) (j : Int)) (m + (n : Int), iota m n) := by
  intro d
  induction d with
  | zero =>
    intro j o hj ho he
    refine Ev.step (f := fun _ => some (m + (n : Int), iota m n)) (fun k => ?_) (Ev.now _)
    simp only [laws_markIntS.l0]
    rw [if_neg (by omega)]
    have e : o = iota m n := by
      refine List.ext_getElem (by rw [iota_length]; exact ho) fun i h1 h2 => ?_
      have h3 := he i (by omega)
      rw [← iota_get m n i (by omega), getD_at o i h1, getD_at _ i h2] at h3
      exact h3
    rw [e, show j = n from by omega]
  | succ d ih =>
    intro j o hj ho he
    refine Ev.step (f := fun k => laws_markIntS.l0 k (o.set j (m + (j : Int))) (m + ((j + 1 : Nat) : Int)) ((j + 1 : Nat) : Int)) (fun k => ?_) (ih (j + 1) _ (by omega) (by rw [List.length_set]; exact ho) fun i hi => ?_)
    · simp only [laws_markIntS.l0]
      rw [if_pos (by omega), if_pos (by omega), wr ((j : Int) + 1) (by omega) (by omega), wr (m + (j : Int) + 1) (by omega) (by omega)]
      simp [Int.add_assoc]
    · by_cases e : i = j
      · subst e
        rw [getD_at _ _ (by rw [List.length_set]; omega)]
        simp
      · rw [← he i (by omega)]
        simp [List.getD_eq_getElem?_getD, List.getElem?_set, Ne.symm e]

theorem markIntS_ev (l : List Int) (m : Int) (hm : 0 ≤ m) (hn : m + (l.length : Int) ≤ 4611686018427387904) : Ev (fun k => laws_markIntS.f k l m) (m + (l.length : Int), iota m l.length) :=
  Ev.congr (fun k => by unfold laws_markIntS.f; simp) (markIntS_l m l.length hm hn l.length 0 l (by omega) rfl (fun i hi => by omega))

theorem heldIntS_l (m : Int) (n : Nat) (hm : 0 ≤ m) (hn : m + (n : Int) ≤ 4611686018427387904) : ∀ (d j : Nat), j + d = n → Ev (fun k => laws_heldIntS.l0 k (iota m n) (m + (j : Int)) (j : Int)) (m + (n : Int)) := by
  intro d
  induction d with
  | zero =>
    intro j hj
    refine Ev.step (f := fun _ => some (m + (n : Int))) (fun k => ?_) (Ev.now _)
    simp only [laws_heldIntS.l0]
    rw [if_neg (by rw [iota_length]; omega), show j = n from by omega]
  | succ d ih =>
    intro j hj
    refine Ev.step (f := fun k => laws_heldIntS.l0 k (iota m n) (m + ((j + 1 : Nat) : Int)) ((j + 1 : Nat) : Int)) (fun k => ?_) (ih (j + 1) (by omega))
    simp only [laws_heldIntS.l0]
    rw [if_pos (by rw [iota_length]; omega), if_pos (by omega), rd_nat, iota_get m n j (by omega), if_pos rfl, wr ((j : Int) + 1) (by omega) (by omega), wr (m + (j : Int) + 1) (by omega) (by omega)]
    simp [Int.add_assoc]

theorem heldIntS_ev (m : Int) (n : Nat) (hm : 0 ≤ m) (hn : m + (n : Int) ≤ 4611686018427387904) : Ev (fun k => laws_heldIntS.f k (iota m n) m) (m + (n : Int)) :=
  Ev.congr (fun k => by unfold laws_heldIntS.f; simp) (heldIntS_l m n hm hn n 0 (by omega))

theorem specAllRunes_l (l : List Int) (hl : l.length ≤ 17592186044416) : ∀ (d j : Nat), j + d = l.length → Ev (fun k => spec_l1AllRunes.l0 k l l (l.length : Int) (j : Int)) ((l.drop j).all isR && decide (l.length ≤ 1000)) := by
  intro d
  induction d with
  | zero =>
    intro j hj
    refine Ev.step (f := fun _ => some ((l.drop j).all isR && decide (l.length ≤ 1000))) (fun k => ?_) (Ev.now _)
    simp only [spec_l1AllRunes.l0]
    rw [if_neg (by omega), List.drop_of_length_le (by omega)]
    simp
    omega
  | succ d ih =>
    intro j hj
    rw [drop_at l j (by omega), List.all_cons]
    cases e : isR (l[j]'(by omega)) with
    | true =>
      refine Ev.step (f := fun k => spec_l1AllRunes.l0 k l l (l.length : Int) ((j + 1 : Nat) : Int)) (fun k => ?_) (by simpa using ih (j + 1) (by omega))
      simp only [spec_l1AllRunes.l0]
      rw [if_pos (by omega), if_pos (by omega), if_pos (by omega), rd_at l j (by omega), gr_s, wr _ (by omega) (by omega), e]
      simp
    | false =>
      refine Ev.step (f := fun _ => some false) (fun k => ?_) (by simpa using Ev.now false)
      simp only [spec_l1AllRunes.l0]
      rw [if_pos (by omega), if_pos (by omega), if_pos (by omega), rd_at l j (by omega), gr_s, e]
      simp

theorem specAllRunes_ev (l : List Int) (hl : l.length ≤ 17592186044416) : Ev (fun k => spec_l1AllRunes.f k l) (l.all isR && decide (l.length ≤ 1000)) :=
  Ev.congr (fun k => by unfold spec_l1AllRunes.f; rfl) (by simpa using specAllRunes_l l hl l.length 0 (by omega))

theorem goodRuneV_isR (r : Int) : goodRuneV r = isR r := by
  unfold goodRuneV isR inB
  rfl

theorem areRunesV_eq (l : List Int) (m : Int) : areRunesV l m = (l.all isR && decide ((l.length : Int) ≤ m)) := by
  unfold areRunesV
  have e : (!l.any badRuneV) = l.all isR := by
    rw [List.not_any_eq_all_not]
    congr 1
    funext x
    unfold badRuneV
    rw [Bool.not_not, goodRuneV_isR]
  rw [e]
  by_cases h : (l.length : Int) ≤ m
  · simp [h]
  · simp [h]

def l3L (l : List Int) : Bool := l.all isR && decide (l.length ≤ 300)
theorem l3List_ev (l : List Int) (hl : l.length ≤ 17592186044416) : Ev (fun k => spec_l3List.f k l) (l3L l) := by
  unfold spec_l3List.f l3L
  by_cases h : l.length ≤ 300
  · refine Ev.congr (fun k => by rw [if_pos (by omega)]) (Ev.bind (specAllRunes_ev l hl) ?_)
    rw [show decide (l.length ≤ 1000) = true from decide_eq_true (by omega), show decide (l.length ≤ 300) = true from decide_eq_true h]
    exact Ev.now _
  · refine Ev.congr (fun k => by rw [if_neg (by omega)]) ?_
    rw [show decide (l.length ≤ 300) = false from decide_eq_false h, Bool.and_false]
    exact Ev.now _
theorem l3L_are (l : List Int) : areRunesV l 300 = l3L l := by
  rw [areRunesV_eq]
  unfold l3L
  congr 1
  rw [Bool.eq_iff_iff, decide_eq_true_eq, decide_eq_true_eq]
  omega
theorem l3Mark_s (x : Int) : spec_l3Mark.f x = some (mkB x) := by
  unfold spec_l3Mark.f spec_l1In.f mkB
  by_cases h1 : 768 ≤ x
  · by_cases h2 : x ≤ 879
    · simp [h1, h2]
    · simp [h1, h2]
  · simp [h1]
theorem l3Order_s (x : Int) : spec_l3Order.f x = some (ordV x) := by
  unfold spec_l3Order.f ordV
  rw [l3Mark_s, Option.bind_some]
  unfold mkB
  by_cases h : 768 ≤ x ∧ x ≤ 879
  · rw [if_pos (decide_eq_true h), if_pos h, Int.tmod_eq_emod_of_nonneg (by omega)]
    rw [wr _ (by omega) (by omega)]
  · rw [if_neg (by rw [decide_eq_true_iff]; exact h), if_neg h]
theorem l1Own_s (l : List Int) (h : l.length < 17592186044416) : spec_l1Own.f l = some l := by
  unfold spec_l1Own.f
  rw [Option.bind_some, if_pos (by simpa using h)]
  rfl
theorem insR_all (r : Int) : ∀ l : List Int, (∀ y ∈ l, passM r y = true) → insR r l = l ++ [r]
  | [], _ => rfl
  | y :: ys, h => by
    rw [insR, if_pos (h y (List.mem_cons_self ..)), insR_all r ys (fun z hz => h z (List.mem_cons_of_mem _ hz))]
    rfl
theorem insM_cut (a b : List Int) (r : Int) (hb : ∀ y ∈ b, passM r y = true) (ha : ∀ y, a.getLast? = some y → passM r y = false) : insM (a ++ b) r = a ++ [r] ++ b := by
  unfold insM
  rw [List.reverse_append, insR_append r a.reverse (fun y hy => ha y (by rwa [List.head?_reverse] at hy)), insR_all r b.reverse (fun y hy => hb y (List.mem_reverse.1 hy))]
  simp
/-- One number goes to its place. -/
theorem specIns (l s : List Int) (r : Int) (j : Nat) (R : List Int) (hj : j < 1000000) (hs : s.length < 1000000)
    (next : Ev (fun k => spec_l3Sort.l0 k (insM s r) l (l.length : Int) ((j + 1 : Nat) : Int)) R) :
    ∀ i, i ≤ s.length → (∀ y ∈ s.drop i, passM r y = true) → Ev (fun k => spec_l3Sort.l1 k s r (i : Int) l (l.length : Int) (j : Int)) R := by
  have fin : ∀ i, i ≤ s.length → (∀ y ∈ s.drop i, passM r y = true) → (∀ y, (s.take i).getLast? = some y → passM r y = false) → insM s r = s.take i ++ [r] ++ s.drop i := by
    intro i hi h1 h2
    have := insM_cut (s.take i) (s.drop i) r h1 h2
    rwa [List.take_append_drop] at this
  have e1 : wrap64 ((j : Int) + 1) = ((j + 1 : Nat) : Int) := by rw [wr _ (by omega) (by omega)]; omega
  have tail : ∀ i, i ≤ s.length → insM s r = s.take i ++ [r] ++ s.drop i → ∀ k, (if 0 ≤ (i : Int) then (if (i : Int) ≤ (s.length : Int) then ((spec_l1Own.f (s.drop (i : Int).toNat)).bind fun t132 => ((some (s.take (i : Int).toNat : List Int)).bind fun y135 => (if y135.length < 17592186044416 then ((some (y135 ++ [r] : List Int)).bind fun y138 => (if y138.length + t132.length < 17592186044416 then (spec_l3Sort.l0 k (y138 ++ t132) l (l.length : Int) (wrap64 ((j : Int) + 1))) else (none))) else (none)))) else (none)) else (none)) = spec_l3Sort.l0 k (insM s r) l (l.length : Int) ((j + 1 : Nat) : Int) := by
    intro i hi he k
    rw [if_pos (by omega), if_pos (by omega), Int.toNat_natCast, l1Own_s _ (by rw [List.length_drop]; omega), Option.bind_some, Option.bind_some, if_pos (by rw [List.length_take]; omega), Option.bind_some, if_pos (by simp only [List.length_append, List.length_take, List.length_drop, List.length_cons, List.length_nil]; omega), e1, he]
  intro i
  induction i with
  | zero =>
    intro hi hp
    have he := fin 0 hi hp (fun y hy => by simp at hy)
    refine Ev.step (fun k => ?_) next
    simp only [spec_l3Sort.l1]
    rw [l3Mark_s, Option.bind_some]
    cases mkB r with
    | false => rw [if_neg (by simp)]; exact tail 0 hi he k
    | true => rw [if_pos rfl, if_neg (by omega)]; exact tail 0 hi he k
  | succ i ih =>
    intro hi hp
    have hw : wrap64 (((i + 1 : Nat) : Int) - 1) = (i : Int) := by rw [wr _ (by omega) (by omega)]; omega
    have hlast : (s.take (i + 1)).getLast? = some (s[i]'(by omega)) := by
      rw [List.take_succ_eq_append_getElem (by omega), List.getLast?_append, List.getLast?_singleton, Option.some_or]
    by_cases hc : passM r (s[i]'(by omega)) = true
    · have hc2 : (768 ≤ r ∧ r ≤ 879) ∧ ordV r < ordV (s[i]'(by omega)) := of_decide_eq_true hc
      refine Ev.step (f := fun k => spec_l3Sort.l1 k s r (i : Int) l (l.length : Int) (j : Int)) (fun k => ?_) (ih (by omega) (fun y hy => ?_))
      · simp only [spec_l3Sort.l1]
        rw [l3Mark_s, Option.bind_some, show mkB r = true from decide_eq_true hc2.1, if_pos rfl, if_pos (by omega), hw, if_pos (by omega), if_pos (by omega), rd_at s i (by omega), l3Order_s, Option.bind_some, l3Order_s, Option.bind_some, if_pos hc2.2]
      · rw [drop_at s i (by omega)] at hy
        rcases List.mem_cons.1 hy with rfl | hy
        · exact hc
        · exact hp y hy
    · have he := fin (i + 1) hi hp (fun y hy => by rw [hlast] at hy; cases hy; exact Bool.eq_false_iff.2 hc)
      refine Ev.step (fun k => ?_) next
      simp only [spec_l3Sort.l1]
      rw [l3Mark_s, Option.bind_some]
      cases hm : mkB r with
      | false => rw [if_neg (by simp)]; exact tail (i + 1) hi he k
      | true =>
        have hm2 : 768 ≤ r ∧ r ≤ 879 := of_decide_eq_true hm
        have hn : ¬ ordV r < ordV (s[i]'(by omega)) := fun h => hc (decide_eq_true ⟨hm2, h⟩)
        rw [if_pos rfl, if_pos (by omega), hw, if_pos (by omega), if_pos (by omega), rd_at s i (by omega), l3Order_s, Option.bind_some, l3Order_s, Option.bind_some, if_neg hn]
        exact tail (i + 1) hi he k
theorem specSort_l (l : List Int) (hl : l.length ≤ 300) : ∀ (d j : Nat) (s : List Int), j + d = l.length → s.length = j → Ev (fun k => spec_l3Sort.l0 k s l (l.length : Int) (j : Int)) ((l.drop j).foldl insM s) := by
  intro d
  induction d with
  | zero =>
    intro j s hj hs
    refine Ev.step (f := fun _ => some ((l.drop j).foldl insM s)) (fun k => ?_) (Ev.now _)
    simp only [spec_l3Sort.l0]
    rw [if_neg (by omega), List.drop_of_length_le (by omega)]
    rfl
  | succ d ih =>
    intro j s hj hs
    rw [drop_at l j (by omega), List.foldl_cons]
    have hn := ih (j + 1) (insM s (l[j]'(by omega))) (by omega) (by rw [insM_length]; omega)
    refine Ev.step (f := fun k => spec_l3Sort.l1 k s (l[j]'(by omega)) (s.length : Int) l (l.length : Int) (j : Int)) (fun k => ?_) (specIns l s _ j _ (by omega) (by omega) hn s.length (Nat.le_refl _) (fun y hy => by simp at hy))
    simp only [spec_l3Sort.l0]
    rw [if_pos (by omega), if_pos (by omega), if_pos (by omega), rd_at l j (by omega)]
theorem specSort_ev (l : List Int) (hl : l.length ≤ 300) : Ev (fun k => spec_l3Sort.f k l) (sortM l) :=
  Ev.congr (fun k => by unfold spec_l3Sort.f; rfl) (by simpa [sortM] using specSort_l l hl l.length 0 [] (by omega) rfl)
/-- SortMarks. -/
def sortMarksR (l : List Int) : List Int × Bool := if l3L l = true then (sortM l, true) else ([], false)
theorem l3L_le {l : List Int} (h : l3L l = true) : l.length ≤ 300 := by
  unfold l3L at h
  rw [Bool.and_eq_true, decide_eq_true_eq] at h
  exact h.2
theorem sortMarksR_length (l : List Int) : (sortMarksR l).1.length ≤ 300 := by
  unfold sortMarksR
  split
  · rename_i h
    show (sortM l).length ≤ 300
    rw [sortM_length]
    exact l3L_le h
  · simp
theorem sortMarksR_spec (l : List Int) (hl : l.length ≤ 17592186044416) : Ev (fun k => spec_SortMarks.f k l) (sortMarksR l) := by
  unfold spec_SortMarks.f sortMarksR
  refine Ev.bind (l3List_ev l hl) ?_
  cases h : l3L l with
  | false => exact Ev.congr (fun k => by rw [if_neg (by simp)]) (by simpa using Ev.now (([] : List Int), false))
  | true =>
    refine Ev.congr (fun k => by rw [if_pos rfl]) (Ev.bind (specSort_ev l (l3L_le h)) ?_)
    simpa using Ev.now (sortM l, true)
theorem sortMarksR_impl (l : List Int) (hl : l.length ≤ 17592186044416) : Ev (fun _ => impl_SortMarks.f l) (sortMarksR l) := by
  unfold impl_SortMarks.f impl_formed.f sortMarksR
  rw [l3L_are]
  simp only [if_true]
  cases h : l3L l with
  | false => simpa using Ev.now (([] : List Int), false)
  | true =>
    have hn := l3L_le h
    have hz := sortM_length l
    unfold impl_sortMarks.f
    rw [if_pos rfl, if_pos hn, Option.bind_some, if_neg (by omega), if_pos rfl]
    exact Ev.now _
theorem FnExactSortMarks : laws_FnExactSortMarks.Pure := by
  intro l hm hs _
  refine Ev.rounds (r := true) ?_
  unfold laws_FnExactSortMarks.f
  by_cases h : (l.length : Int) > 1048576
  · exact Ev.congr (fun k => by rw [if_pos h]) (Ev.now true)
  · refine Ev.congr (fun k => by rw [if_neg h]) ?_
    have hl : l.length ≤ 17592186044416 := by omega
    have hx := sortMarksR_length l
    have cs := sortMarksR_spec l hl
    have ci := sortMarksR_impl l hl
    generalize sortMarksR l = q at hx cs ci
    obtain ⟨x, b⟩ := q
    replace hx : x.length ≤ 300 := hx
    have j2 : Ev (fun k => laws_FnExactSortMarks.j2 k (iota 1 x.length) (1 + (x.length : Int)) false) true := by
      refine Ev.step (fun k => by simp only [laws_FnExactSortMarks.j2]; rw [if_neg (by simp)]) ?_
      refine Ev.bind (heldIntS_ev 1 x.length (by omega) (by omega)) ?_
      exact Ev.congr (fun k => by rw [if_neg (by omega), if_pos rfl]) (Ev.now true)
    have j1 : Ev (fun k => laws_FnExactSortMarks.j1 k l x b x false) true := by
      refine Ev.step (fun k => by simp only [laws_FnExactSortMarks.j1]; rw [if_neg (by simp)]) ?_
      refine Ev.bind (markIntS_ev x 1 (by omega) (by omega)) (Ev.bind (heldIntS_ev 1 x.length (by omega) (by omega)) ?_)
      refine Ev.congr (fun k => by rw [if_neg (by omega), if_pos rfl]) (Ev.bind (toIntS_ev l hl) (Ev.bind ci (Ev.bind (eqIntS_ev x x (by omega)) ?_)))
      simp only [decide_true, if_true, bne_self_eq_false]
      exact j2
    have j0 : Ev (fun k => laws_FnExactSortMarks.j0 k l x b l x b false) true := by
      refine Ev.step (fun k => by simp only [laws_FnExactSortMarks.j0]; rw [if_neg (by simp)]) ?_
      refine Ev.bind (toIntS_ev l hl) (Ev.bind (eqIntS_ev l l hl) ?_)
      simp only [decide_true, if_true]
      refine Ev.bind (markIntS_ev l 1 (by omega) (by omega)) ?_
      refine Ev.congr (fun k => by rw [if_neg (by omega)]) (Ev.bind (eqIntS_ev x x (by omega)) ?_)
      simp only [decide_true, if_true, bne_self_eq_false]
      exact j1
    refine Ev.bind (toIntS_ev l hl) (Ev.bind cs (Ev.bind (toIntS_ev l hl) (Ev.bind ci (Ev.bind (eqIntS_ev x x (by omega)) ?_))))
    simp only [decide_true, if_true, bne_self_eq_false]
    exact j0

end Go.Proofs.Ytaeaeejfaffbpaa.Pure
