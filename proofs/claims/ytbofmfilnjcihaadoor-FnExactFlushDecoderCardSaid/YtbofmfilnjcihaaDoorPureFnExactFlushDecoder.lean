/-
  For every input the law FnExactFlushDecoder returns true; no condition.
-/
import Derived.Test.YtbofmfilnjcihaaDoorHFnExactFlushDecoderx11
import Derived.Lib.DecodeN
import Derived.Laws.BitsLemmas
namespace Go.Proofs.YtbofmfilnjcihaaDoor.Pure
open Go.RowKit Go.Proofs.YtbofmfilnjcihaaDoor.HFnExactFlushDecoder Go.Proofs.YtbofmfilnjcihaaDoorW.PrintWords Go.Proofs.YtbofmfilnjcihaaDoorW.PrintLast
set_option linter.unusedSimpArgs false
set_option linter.unusedVariables false
theorem wr (i : Int) (h0 : -9223372036854775808 ≤ i) (h1 : i ≤ 9223372036854775807) : wrap64 i = i := by unfold wrap64; omega

theorem rd_nat (l : List Int) (j : Nat) : rd l (j : Int) = l.getD j 0 := by unfold rd; simp

theorem getD_at (l : List Int) (j : Nat) (h : j < l.length) : l.getD j 0 = l[j] := by simp [List.getD_eq_getElem?_getD, h]

theorem rd_at (l : List Int) (j : Nat) (h : j < l.length) : rd l (j : Int) = l[j] := by rw [rd_nat, getD_at l j h]

theorem drop_at (l : List Int) (j : Nat) (h : j < l.length) : l.drop j = l[j] :: l.drop (j + 1) := List.drop_eq_getElem_cons h

theorem eqIntS_l (a b : List Int) (hab : a.length = b.length) (hl : a.length ≤ 17592186044416) : ∀ (d j : Nat), j + d = a.length → a.take j = b.take j → Ev (fun k => laws_eqIntS.l0 k a b (j : Int)) (decide (a = b)) := by
  intro d
  induction d with
  | zero =>
    intro j hj ht
    refine Ev.step (f := fun _ => some (decide (a = b))) (fun k => ?_) (Ev.now _)
    simp only [laws_eqIntS.l0]
    rw [if_neg (by omega)]
    rw [List.take_of_length_le (by omega), List.take_of_length_le (by omega)] at ht
    simp [ht]
  | succ d ih =>
    intro j hj ht
    by_cases e : a[j]'(by omega) = b[j]'(by omega)
    · refine Ev.step (f := fun k => laws_eqIntS.l0 k a b ((j + 1 : Nat) : Int)) (fun k => ?_) (ih (j + 1) (by omega) ?_)
      · simp only [laws_eqIntS.l0]
        rw [if_pos (by omega), if_pos (by omega), if_pos (by omega), rd_at a j (by omega), rd_at b j (by omega), if_pos e, wr _ (by omega) (by omega)]
        simp
      · rw [List.take_succ_eq_append_getElem (by omega), List.take_succ_eq_append_getElem (by omega), ht, e]
    · refine Ev.step (f := fun _ => some (decide (a = b))) (fun k => ?_) (Ev.now _)
      simp only [laws_eqIntS.l0]
      rw [if_pos (by omega), if_pos (by omega), if_pos (by omega), rd_at a j (by omega), rd_at b j (by omega), if_neg e]
      have : ¬ a = b := fun h => e (by subst h; rfl)
      simp [this]

theorem eqIntS_ev (a b : List Int) (hl : a.length ≤ 17592186044416) : Ev (fun k => laws_eqIntS.f k a b) (decide (a = b)) := by
  by_cases h : a.length = b.length
  · refine Ev.congr (f := fun k => laws_eqIntS.l0 k a b ((0 : Nat) : Int)) (fun k => ?_) (eqIntS_l a b h hl a.length 0 (by omega) (by simp))
    unfold laws_eqIntS.f
    rw [if_pos (by omega)]
    simp
  · refine Ev.congr (f := fun _ => some (decide (a = b))) (fun k => ?_) (Ev.now _)
    unfold laws_eqIntS.f
    rw [if_neg (by omega)]
    have : ¬ a = b := fun e => h (by rw [e])
    simp [this]

def iota (m : Int) (n : Nat) : List Int := (List.range n).map fun (i : Nat) => m + (i : Int)
theorem iota_length (m : Int) (n : Nat) : (iota m n).length = n := by simp [iota]
theorem iota_get (m : Int) (n i : Nat) (h : i < n) : (iota m n).getD i 0 = m + (i : Int) := by simp [iota, List.getD_eq_getElem?_getD, h]

theorem markIntS_l (m : Int) (n : Nat) (hm : 0 ≤ m) (hn : m + (n : Int) ≤ 4611686018427387904) : ∀ (d j : Nat) (o : List Int), j + d = n → o.length = n → (∀ i, i < j → o.getD i 0 = m + (i : Int)) → Ev (fun k => laws_markIntS.l0 k o (m + (j : Int)) (j : Int)) (m + (n : Int), iota m n) := by
  intro d
  induction d with
  | zero =>
    intro j o hj ho he
    refine Ev.step (f := fun _ => some (m + (n : Int), iota m n)) (fun k => ?_) (Ev.now _)
    simp only [laws_markIntS.l0]
    rw [if_neg (by omega)]
    have e : o = iota m n := by
      refine List.ext_getElem (by rw [iota_length]; exact ho) fun i h1 h2 => ?_
      have h3 := he i (by omega)
      rw [← iota_get m n i (by omega), getD_at o i h1, getD_at _ i h2] at h3
      exact h3
    rw [e, show j = n from by omega]
  | succ d ih =>
    intro j o hj ho he
    refine Ev.step (f := fun k => laws_markIntS.l0 k (o.set j (m + (j : Int))) (m + ((j + 1 : Nat) : Int)) ((j + 1 : Nat) : Int)) (fun k => ?_) (ih (j + 1) _ (by omega) (by rw [List.length_set]; exact ho) fun i hi => ?_)
    · simp only [laws_markIntS.l0]
      rw [if_pos (by omega), if_pos (by omega), wr ((j : Int) + 1) (by omega) (by omega), wr (m + (j : Int) + 1) (by omega) (by omega)]
      simp [Int.add_assoc]
    · by_cases e : i = j
      · subst e
        rw [getD_at _ _ (by rw [List.length_set]; omega)]
        simp
      · rw [← he i (by omega)]
        simp [List.getD_eq_getElem?_getD, List.getElem?_set, Ne.symm e]

theorem markIntS_ev (l : List Int) (m : Int) (hm : 0 ≤ m) (hn : m + (l.length : Int) ≤ 4611686018427387904) : Ev (fun k => laws_markIntS.f k l m) (m + (l.length : Int), iota m l.length) :=
  Ev.congr (fun k => by unfold laws_markIntS.f; simp) (markIntS_l m l.length hm hn l.length 0 l (by omega) rfl (fun i hi => by omega))

theorem heldIntS_l (m : Int) (n : Nat) (hm : 0 ≤ m) (hn : m + (n : Int) ≤ 4611686018427387904) : ∀ (d j : Nat), j + d = n → Ev (fun k => laws_heldIntS.l0 k (iota m n) (m + (j : Int)) (j : Int)) (m + (n : Int)) := by
  intro d
  induction d with
  | zero =>
    intro j hj
    refine Ev.step (f := fun _ => some (m + (n : Int))) (fun k => ?_) (Ev.now _)
    simp only [laws_heldIntS.l0]
    rw [if_neg (by rw [iota_length]; omega), show j = n from by omega]
  | succ d ih =>
    intro j hj
    refine Ev.step (f := fun k => laws_heldIntS.l0 k (iota m n) (m + ((j + 1 : Nat) : Int)) ((j + 1 : Nat) : Int)) (fun k => ?_) (ih (j + 1) (by omega))
    simp only [laws_heldIntS.l0]
    rw [if_pos (by rw [iota_length]; omega), if_pos (by omega), rd_nat, iota_get m n j (by omega), if_pos rfl, wr ((j : Int) + 1) (by omega) (by omega), wr (m + (j : Int) + 1) (by omega) (by omega)]
    simp [Int.add_assoc]

theorem heldIntS_ev (m : Int) (n : Nat) (hm : 0 ≤ m) (hn : m + (n : Int) ≤ 4611686018427387904) : Ev (fun k => laws_heldIntS.f k (iota m n) m) (m + (n : Int)) :=
  Ev.congr (fun k => by unfold laws_heldIntS.f; simp) (heldIntS_l m n hm hn n 0 (by omega))

/-- Within bounds. -/
def inB (lo hi n : Int) : Bool := decide (lo ≤ n ∧ n ≤ hi)
theorem inB_iff (lo hi n : Int) : inB lo hi n = true ↔ lo ≤ n ∧ n ≤ hi := by simp [inB]

theorem in_s (a b c : Int) : spec_l1In.f a b c = some (inB b c a) := by
  unfold spec_l1In.f inB
  by_cases h : a ≥ b
  · rw [if_pos h]; simp [show b ≤ a from h]
  · rw [if_neg h]; simp [show ¬ b ≤ a from h]

theorem in_i (a b c : Int) : impl_inRange.f a b c = some (inB b c a) := by
  unfold impl_inRange.f inB
  by_cases h : b ≤ a
  · rw [if_pos h]; simp [h]
  · rw [if_neg h]; simp [h]

def isR (a : Int) : Bool := inB 0 1114111 a && !inB 55296 57343 a
theorem gr_s (a : Int) : spec_GoodRune.f a = some (isR a) := by
  unfold spec_GoodRune.f isR
  rw [in_s, in_s]
  simp only [Option.bind_some]
  cases inB 0 1114111 a <;> simp

/-- The bytes of a rune. -/
def u8V (r : Int) : List Int :=
  if r < 128 then [r] else if r < 2048 then [192 + r / 64, 128 + r % 64] else if r < 65536 then [224 + r / 4096, 128 + r / 64 % 64, 128 + r % 64]
  else [240 + r / 262144, 128 + r / 4096 % 64, 128 + r / 64 % 64, 128 + r % 64]

theorem isR_range (r : Int) (h : isR r = true) : 0 ≤ r ∧ r ≤ 1114111 ∧ ¬ (55296 ≤ r ∧ r ≤ 57343) := by
  unfold isR at h
  rw [Bool.and_eq_true, inB_iff, Bool.not_eq_true', Bool.eq_false_iff, Ne, inB_iff] at h
  exact ⟨h.1.1, h.1.2, h.2⟩

theorem u8_s (r : Int) (h : isR r = true) : spec_l1Utf8.f r = some (strOfNums (u8V r)) := by
  obtain ⟨h0, h1, _⟩ := isR_range r h
  unfold spec_l1Utf8.f u8V
  by_cases c1 : r < 128
  · rw [if_pos c1, if_pos c1, Int.emod_eq_of_lt h0 (by omega)]
  · rw [if_neg c1, if_neg c1]
    by_cases c2 : r < 2048
    · rw [if_pos c2, if_pos c2, Int.tdiv_eq_ediv_of_nonneg h0, Int.tmod_eq_emod_of_nonneg h0, wr (r / 64) (by omega) (by omega), wr (192 + r / 64) (by omega) (by omega), wr (128 + r % 64) (by omega) (by omega), Int.emod_eq_of_lt (a := 192 + r / 64) (by omega) (by omega), Int.emod_eq_of_lt (a := 128 + r % 64) (by omega) (by omega)]
    · rw [if_neg c2, if_neg c2]
      by_cases c3 : r < 65536
      · rw [if_pos c3, if_pos c3, Int.tdiv_eq_ediv_of_nonneg h0, Int.tdiv_eq_ediv_of_nonneg h0, Int.tmod_eq_emod_of_nonneg h0, wr (r / 64) (by omega) (by omega), wr (r / 4096) (by omega) (by omega), Int.tmod_eq_emod_of_nonneg (a := r / 64) (by omega), wr (224 + r / 4096) (by omega) (by omega), wr (128 + r % 64) (by omega) (by omega), wr (128 + r / 64 % 64) (by omega) (by omega), Int.emod_eq_of_lt (a := 224 + r / 4096) (by omega) (by omega), Int.emod_eq_of_lt (a := 128 + r % 64) (by omega) (by omega), Int.emod_eq_of_lt (a := 128 + r / 64 % 64) (by omega) (by omega)]
      · rw [if_neg c3, if_neg c3, Int.tdiv_eq_ediv_of_nonneg h0, Int.tdiv_eq_ediv_of_nonneg h0, Int.tdiv_eq_ediv_of_nonneg h0, Int.tmod_eq_emod_of_nonneg h0, wr (r / 64) (by omega) (by omega), wr (r / 4096) (by omega) (by omega), wr (r / 262144) (by omega) (by omega), Int.tmod_eq_emod_of_nonneg (a := r / 64) (by omega), Int.tmod_eq_emod_of_nonneg (a := r / 4096) (by omega), wr (240 + r / 262144) (by omega) (by omega), wr (128 + r % 64) (by omega) (by omega), wr (128 + r / 64 % 64) (by omega) (by omega), wr (128 + r / 4096 % 64) (by omega) (by omega), Int.emod_eq_of_lt (a := 240 + r / 262144) (by omega) (by omega), Int.emod_eq_of_lt (a := 128 + r % 64) (by omega) (by omega), Int.emod_eq_of_lt (a := 128 + r / 64 % 64) (by omega) (by omega), Int.emod_eq_of_lt (a := 128 + r / 4096 % 64) (by omega) (by omega)]

theorem size_str (l : List Int) : (strOfNums l).size = l.length := by
  unfold strOfNums
  simp [ByteArray.size]

theorem getB (s : ByteArray) (i : Nat) : bt s (i : Int) = ((s.get! i).toNat : Int) ∨ ¬ i < s.size := by
  by_cases h : i < s.size
  · left
    unfold bt
    rw [dif_pos (by simpa using h)]
    simp only [Int.toNat_natCast]
    show ((s[i]'h).toNat : Int) = ((s.data[i]!).toNat : Int)
    rw [getElem!_pos s.data i h]
    rfl
  · exact Or.inr h
theorem bt_get (s : ByteArray) (i : Nat) (h : i < s.size) : bt s (i : Int) = ((s.get! i).toNat : Int) := (getB s i).resolve_right (fun g => g h)

theorem str_ext (s : ByteArray) (i n : Nat) (h : i + n ≤ s.size) (l : List Int) (hl : ∀ x ∈ l, 0 ≤ x ∧ x ≤ 255) : ((strOfNums l).toList = (s.extract i (i + n)).toList) ↔ (l.length = n ∧ ∀ k, k < n → l.getD k 0 = bt s ((i + k : Nat) : Int)) := by
  rw [ByteArray.toList_eq, ByteArray.toList_eq, strOfNums_data, ByteArray.data_extract]
  have hz : (s.data.extract i (i + n)).size = n := by
    have : s.data.size = s.size := rfl
    rw [Array.size_extract]; omega
  have hg : ∀ k (hk : k < n), ((s.data.extract i (i + n)).toList[k]'(by rw [Array.length_toList, hz]; exact hk)).toNat = (bt s ((i + k : Nat) : Int)).toNat := by
    intro k hk
    rw [bt_get s (i + k) (by omega)]
    show _ = (((s.data[i + k]!).toNat : Int)).toNat
    rw [getElem!_pos s.data (i + k) (by show i + k < s.size; omega)]
    simp
  have hb : ∀ k, 0 ≤ bt s ((i + k : Nat) : Int) ∧ bt s ((i + k : Nat) : Int) ≤ 255 := fun k => bt_range _ _
  constructor
  · intro e
    have e1 : l.length = n := by
      have := congrArg List.length e
      rwa [List.length_map, Array.length_toList (xs := s.data.extract i (i + n)), hz] at this
    refine ⟨e1, fun k hk => ?_⟩
    have e2 : (l.map fun n => UInt8.ofNat n.toNat)[k]'(by rw [List.length_map]; omega) = (s.data.extract i (i + n)).toList[k]'(by rw [Array.length_toList, hz]; exact hk) := by simp only [e]
    have e3 := congrArg UInt8.toNat e2
    rw [hg k hk, List.getElem_map] at e3
    have h1 := hl (l[k]'(by omega)) (List.getElem_mem _)
    have h2 := hb k
    rw [UInt8.toNat_ofNat', Nat.mod_eq_of_lt (by omega)] at e3
    rw [getD_at l k (by omega)]
    omega
  · rintro ⟨e1, e2⟩
    refine List.ext_getElem (by rw [List.length_map, Array.length_toList (xs := s.data.extract i (i + n)), hz, e1]) fun k h1 h2 => ?_
    rw [List.length_map] at h1
    apply UInt8.toNat_inj.1
    rw [hg k (by omega), List.getElem_map, UInt8.toNat_ofNat']
    have h3 := hl (l[k]'(by omega)) (List.getElem_mem _)
    have h4 := e2 k (by omega)
    rw [getD_at l k (by omega)] at h4
    rw [Nat.mod_eq_of_lt (by omega), h4]

theorem u8V_range (r : Int) (h0 : 0 ≤ r) (h1 : r ≤ 1114111) : ∀ x ∈ u8V r, 0 ≤ x ∧ x ≤ 255 := by
  intro x hx
  unfold u8V at hx
  by_cases c1 : r < 128
  · rw [if_pos c1] at hx; simp only [List.mem_cons, List.not_mem_nil, or_false] at hx; omega
  · rw [if_neg c1] at hx
    by_cases c2 : r < 2048
    · rw [if_pos c2] at hx; simp only [List.mem_cons, List.not_mem_nil, or_false] at hx; omega
    · rw [if_neg c2] at hx
      by_cases c3 : r < 65536
      · rw [if_pos c3] at hx; simp only [List.mem_cons, List.not_mem_nil, or_false] at hx; omega
      · rw [if_neg c3] at hx; simp only [List.mem_cons, List.not_mem_nil, or_false] at hx; omega

theorem at_step (s : ByteArray) (hs : s.size ≤ 4611686018427387904) (i n x : Nat) (v : Int) (r : Int × Int) (h : x < n) (hi : i + n ≤ s.size) (h0 : 0 ≤ v) (h1 : v ≤ 1000000) (hr : Ev (fun k => spec_l1At.l0 k s (i : Int) (n : Int) (v * 64 + bt s ((i + x : Nat) : Int) % 64) ((x + 1 : Nat) : Int)) r) : Ev (fun k => spec_l1At.l0 k s (i : Int) (n : Int) v (x : Int)) r := by
  refine Ev.step (fun k => ?_) hr
  have hb := bt_range s ((i + x : Nat) : Int)
  simp only [spec_l1At.l0]
  rw [if_pos (by omega), wr ((i : Int) + (x : Int)) (by omega) (by omega), if_pos (by omega), if_pos (by omega), show (i : Int) + (x : Int) = ((i + x : Nat) : Int) from by omega, wr (bt s _) (by omega) (by omega), Int.tmod_eq_emod_of_nonneg hb.1, wr (v * 64) (by omega) (by omega), wr _ (by omega) (by omega), wr ((x : Int) + 1) (by omega) (by omega)]
  rfl

theorem at_end (s : ByteArray) (hs : s.size ≤ 4611686018427387904) (i n : Nat) (v : Int) (hi : i + n ≤ s.size) (b : Bool) (hb : (isR v = true → (((u8V v).length = n ∧ ∀ k, k < n → (u8V v).getD k 0 = bt s ((i + k : Nat) : Int)) ↔ b = true)) ∧ (isR v = false → b = false)) : Ev (fun k => spec_l1At.l0 k s (i : Int) (n : Int) v (n : Int)) (if b = true then (v, (n : Int)) else (65533, 1)) := by
  refine Ev.step (f := fun _ => some (if b = true then (v, (n : Int)) else (65533, 1))) (fun k => ?_) (Ev.now _)
  simp only [spec_l1At.l0]
  rw [if_neg (by omega), gr_s]
  cases e : isR v with
  | false => rw [hb.2 e]; simp
  | true =>
    obtain ⟨r0, r1, _⟩ := isR_range v e
    have key := (str_ext s i n hi (u8V v) (u8V_range v r0 r1)).trans (hb.1 e)
    rw [Option.bind_some, if_pos rfl, u8_s v e, Option.bind_some, wr ((i : Int) + (n : Int)) (by omega) (by omega), if_pos (by omega), if_pos (by omega), if_pos (by omega), show ((i : Int) + (n : Int)).toNat = i + n from by omega, Int.toNat_natCast]
    by_cases c : (strOfNums (u8V v)).toList = (s.extract i (i + n)).toList
    · rw [if_pos c, if_pos (key.1 c)]
    · rw [if_neg c, if_neg (fun g => c (key.2 g))]

theorem long_ev (b : Int) : spec_l1Long.f b = some (if b < 128 then 1 else if b < 192 then 0 else if b < 224 then 2 else if b < 240 then 3 else if b < 248 then 4 else 0) := by
  unfold spec_l1Long.f
  split
  · rfl
  · split
    · rfl
    · split
      · rfl
      · split
        · rfl
        · split <;> rfl

theorem isR_iff (v : Int) : isR v = true ↔ 0 ≤ v ∧ v ≤ 1114111 ∧ ¬ (55296 ≤ v ∧ v ≤ 57343) := by
  unfold isR
  rw [Bool.and_eq_true, inB_iff, Bool.not_eq_true', Bool.eq_false_iff, Ne, inB_iff, and_assoc]

def pairZ (p : Nat × Nat) : Int × Int := ((p.1 : Int), (p.2 : Int))

theorem at_ev (s : ByteArray) (hs : s.size ≤ 4611686018427387904) (i : Nat) (hi : i < s.size) : Ev (fun k => spec_l1At.f k s (i : Int)) (pairZ (Utf8.decode s i)) := by
  have bad : ∀ t, Ev (fun k => spec_l1At.j0 k s (i : Int) t true) (65533, 1) := fun t => Ev.step (f := fun _ => some (65533, 1)) (fun k => by simp [spec_l1At.j0]) (Ev.now _)
  rw [Lib.decode_at]
  have h0 := bt_get s i hi
  have l0 : (s.get! i).toNat < 256 := UInt8.toNat_lt _
  generalize hb0 : (s.get! i).toNat = b0 at h0 l0
  have start : ∀ (n : Nat), 1 ≤ n → i + n ≤ s.size → (if (b0 : Int) < 128 then (1 : Int) else if (b0 : Int) < 192 then 0 else if (b0 : Int) < 224 then 2 else if (b0 : Int) < 240 then 3 else if (b0 : Int) < 248 then 4 else 0) = (n : Int) → ∀ r, Ev (fun k => spec_l1At.j0 k s (i : Int) (n : Int) false) r → Ev (fun k => spec_l1At.f k s (i : Int)) r := by
    intro n hn1 hn hl r hr
    refine Ev.congr (fun k => ?_) hr
    unfold spec_l1At.f
    rw [if_pos (by omega), if_pos (by omega), h0, long_ev, hl, Option.bind_some, if_neg (by omega), wr _ (by omega) (by omega), show decide ((i : Int) + (n : Int) > (s.size : Int)) = false from decide_eq_false (by omega)]
  have out : ∀ (n : Nat), 1 ≤ n → n ≤ 4 → ¬ i + n ≤ s.size → (if (b0 : Int) < 128 then (1 : Int) else if (b0 : Int) < 192 then 0 else if (b0 : Int) < 224 then 2 else if (b0 : Int) < 240 then 3 else if (b0 : Int) < 248 then 4 else 0) = (n : Int) → Ev (fun k => spec_l1At.f k s (i : Int)) (65533, 1) := by
    intro n hn1 hn2 hn hl
    refine Ev.congr (fun k => ?_) (bad (n : Int))
    unfold spec_l1At.f
    rw [if_pos (by omega), if_pos (by omega), h0, long_ev, hl, Option.bind_some, if_neg (by omega), wr _ (by omega) (by omega), show decide ((i : Int) + (n : Int) > (s.size : Int)) = true from decide_eq_true (by omega)]
  have zero : (if (b0 : Int) < 128 then (1 : Int) else if (b0 : Int) < 192 then 0 else if (b0 : Int) < 224 then 2 else if (b0 : Int) < 240 then 3 else if (b0 : Int) < 248 then 4 else 0) = 0 → Ev (fun k => spec_l1At.f k s (i : Int)) (65533, 1) := by
    intro hl
    refine Ev.congr (fun k => ?_) (bad 0)
    unfold spec_l1At.f
    rw [if_pos (by omega), if_pos (by omega), h0, long_ev, hl, Option.bind_some, if_pos rfl]
  have lead : ∀ (n : Nat) (m : Int), 2 ≤ n → n ≤ 4 → shl .i64 1 (IntKind.u64.wrap (wrap64 (7 - (n : Int)))) = m → m ≠ 0 → 0 ≤ IntKind.u64.wrap (wrap64 (7 - (n : Int))) → ∀ r, Ev (fun k => spec_l1At.l0 k s (i : Int) (n : Int) (Int.tmod (b0 : Int) m) 1) r → Ev (fun k => spec_l1At.j0 k s (i : Int) (n : Int) false) r := by
    intro n m hn1 hn2 hm hm0 hw r hr
    refine Ev.step (f := fun k => spec_l1At.j1 k s (i : Int) (n : Int) (Int.tmod (b0 : Int) m)) (fun k => ?_) (Ev.step (fun k => ?_) hr)
    · simp only [spec_l1At.j0]
      rw [if_neg (by simp), if_pos (by omega), if_pos (by omega), if_pos (by omega), if_pos hw, hm, if_neg hm0, h0, wr (b0 : Int) (by omega) (by omega)]
    · simp only [spec_l1At.j1]
  by_cases c1 : b0 < 128
  · -- one byte
    have e : Lib.decodeN (s.size - i) b0 (s.get! (i + 1)).toNat (s.get! (i + 2)).toNat (s.get! (i + 3)).toNat = (b0, 1) := by
      unfold Lib.decodeN; rw [if_pos c1]
    rw [e]
    refine start 1 (by omega) (by omega) (by rw [if_pos (by omega)]; rfl) _ ?_
    have en := at_end s hs i 1 (b0 : Int) (by omega) true ⟨fun _ => ⟨fun _ => rfl, fun _ => ?_⟩, fun h => ?_⟩
    · refine Ev.step (f := fun k => spec_l1At.j1 k s (i : Int) ((1 : Nat) : Int) (b0 : Int)) (fun k => ?_) (Ev.step (fun k => ?_) en)
      · simp only [spec_l1At.j0]
        rw [if_neg (by simp), if_pos (by omega), if_pos (by omega), if_neg (by omega), h0, wr (b0 : Int) (by omega) (by omega)]
      · simp only [spec_l1At.j1]
        rfl
    · unfold u8V
      rw [if_pos (by omega)]
      refine ⟨rfl, fun k hk => ?_⟩
      have : k = 0 := by omega
      subst this
      exact h0.symm
    · rw [Bool.eq_false_iff, Ne, isR_iff] at h
      omega
  by_cases c2 : b0 < 192
  · have e : Lib.decodeN (s.size - i) b0 (s.get! (i + 1)).toNat (s.get! (i + 2)).toNat (s.get! (i + 3)).toNat = (65533, 1) := by
      unfold Lib.decodeN; rw [if_neg c1, if_neg (by omega), if_neg (by omega), if_neg (by omega)]
    rw [e]
    exact zero (by rw [if_neg (by omega), if_pos (by omega)])
  by_cases c3 : b0 < 224
  · by_cases hn : i + 2 ≤ s.size
    · have h1 := bt_get s (i + 1) (by omega)
      have l1 : (s.get! (i + 1)).toNat < 256 := UInt8.toNat_lt _
      generalize (s.get! (i + 1)).toNat = b1 at h1 l1 ⊢
      refine start 2 (by omega) hn (by rw [if_neg (by omega), if_neg (by omega), if_pos (by omega)]; rfl) _ (lead 2 32 (by omega) (by omega) (by rw [show wrap64 (7 - ((2 : Nat) : Int)) = 5 from wr _ (by decide) (by decide)]; decide) (by decide) (by rw [show wrap64 (7 - ((2 : Nat) : Int)) = 5 from wr _ (by decide) (by decide)]; decide) _ ?_)
      rw [Int.tmod_eq_emod_of_nonneg (by omega)]
      refine at_step s hs i 2 1 _ _ (by omega) hn (by omega) (by omega) ?_
      rw [h1]
      have en := at_end s hs i 2 ((b0 : Int) % 32 * 64 + (b1 : Int) % 64) hn (decide (b1 / 64 = 2 ∧ b0 % 32 * 64 + b1 % 64 ≥ 128)) ⟨fun hr => ?_, fun hr => ?_⟩
      · refine Ev.congr (fun k => rfl) (Eq.mp ?_ en)
        congr 1
        by_cases q1 : b1 / 64 = 2
        · by_cases q2 : b0 % 32 * 64 + b1 % 64 ≥ 128
          · rw [if_pos (decide_eq_true ⟨q1, q2⟩)]
            unfold Lib.decodeN
            rw [if_neg c1, if_pos ⟨by omega, by omega, q1⟩, if_pos q2]; rfl
          · rw [if_neg (by rw [decide_eq_true_eq]; exact fun g => q2 g.2)]
            unfold Lib.decodeN
            rw [if_neg c1, if_pos ⟨by omega, by omega, q1⟩, if_neg q2]; rfl
        · rw [if_neg (by rw [decide_eq_true_eq]; exact fun g => q1 g.1)]
          unfold Lib.decodeN
          rw [if_neg c1, if_neg (by omega), if_neg (by omega), if_neg (by omega)]; rfl
      · rw [decide_eq_true_eq]
        unfold u8V
        constructor
        · rintro ⟨a1, a2⟩
          by_cases d1 : (b0 : Int) % 32 * 64 + (b1 : Int) % 64 < 128
          · rw [if_pos d1] at a1; simp at a1
          · rw [if_neg d1, if_pos (by omega)] at a2
            have p1 := a2 1 (by omega)
            rw [h1] at p1
            replace p1 : 128 + ((b0 : Int) % 32 * 64 + (b1 : Int) % 64) % 64 = (b1 : Int) := p1
            omega
        · rintro ⟨a1, a2⟩
          rw [if_neg (by omega), if_pos (by omega)]
          refine ⟨rfl, fun k hk => ?_⟩
          rcases (by omega : k = 0 ∨ k = 1) with rfl | rfl
          · show 192 + ((b0 : Int) % 32 * 64 + (b1 : Int) % 64) / 64 = _
            rw [Nat.add_zero, h0]; omega
          · show 128 + ((b0 : Int) % 32 * 64 + (b1 : Int) % 64) % 64 = _
            rw [h1]; omega
      · rw [Bool.eq_false_iff, Ne, isR_iff] at hr
        omega
    · have e : Lib.decodeN (s.size - i) b0 (s.get! (i + 1)).toNat (s.get! (i + 2)).toNat (s.get! (i + 3)).toNat = (65533, 1) := by
        unfold Lib.decodeN; rw [if_neg c1, if_neg (by omega), if_neg (by omega), if_neg (by omega)]
      rw [e]
      exact out 2 (by omega) (by omega) hn (by rw [if_neg (by omega), if_neg (by omega), if_pos (by omega)]; rfl)
  by_cases c4 : b0 < 240
  · by_cases hn : i + 3 ≤ s.size
    · have h1 := bt_get s (i + 1) (by omega)
      have h2 := bt_get s (i + 2) (by omega)
      have l1 : (s.get! (i + 1)).toNat < 256 := UInt8.toNat_lt _
      have l2 : (s.get! (i + 2)).toNat < 256 := UInt8.toNat_lt _
      generalize (s.get! (i + 1)).toNat = b1 at h1 l1 ⊢
      generalize (s.get! (i + 2)).toNat = b2 at h2 l2 ⊢
      refine start 3 (by omega) hn (by rw [if_neg (by omega), if_neg (by omega), if_neg (by omega), if_pos (by omega)]; rfl) _ (lead 3 16 (by omega) (by omega) (by rw [show wrap64 (7 - ((3 : Nat) : Int)) = 4 from wr _ (by decide) (by decide)]; decide) (by decide) (by rw [show wrap64 (7 - ((3 : Nat) : Int)) = 4 from wr _ (by decide) (by decide)]; decide) _ ?_)
      rw [Int.tmod_eq_emod_of_nonneg (by omega)]
      refine at_step s hs i 3 1 _ _ (by omega) hn (by omega) (by omega) ?_
      rw [h1]
      refine at_step s hs i 3 2 _ _ (by omega) hn (by omega) (by omega) ?_
      rw [h2]
      have en := at_end s hs i 3 (((b0 : Int) % 16 * 64 + (b1 : Int) % 64) * 64 + (b2 : Int) % 64) hn (decide (b1 / 64 = 2 ∧ b2 / 64 = 2 ∧ b0 % 16 * 4096 + b1 % 64 * 64 + b2 % 64 ≥ 2048 ∧ (b0 % 16 * 4096 + b1 % 64 * 64 + b2 % 64 < 55296 ∨ (57344 ≤ b0 % 16 * 4096 + b1 % 64 * 64 + b2 % 64 ∧ b0 % 16 * 4096 + b1 % 64 * 64 + b2 % 64 ≤ 1114111)))) ⟨fun hr => ?_, fun hr => ?_⟩
      · refine Ev.congr (fun k => rfl) (Eq.mp ?_ en)
        congr 1
        by_cases q1 : b1 / 64 = 2 ∧ b2 / 64 = 2
        · by_cases q2 : b0 % 16 * 4096 + b1 % 64 * 64 + b2 % 64 ≥ 2048 ∧ (b0 % 16 * 4096 + b1 % 64 * 64 + b2 % 64 < 55296 ∨ (57344 ≤ b0 % 16 * 4096 + b1 % 64 * 64 + b2 % 64 ∧ b0 % 16 * 4096 + b1 % 64 * 64 + b2 % 64 ≤ 1114111))
          · rw [if_pos (decide_eq_true ⟨q1.1, q1.2, q2⟩)]
            unfold Lib.decodeN
            rw [if_neg c1, if_neg (by omega), if_pos ⟨by omega, ⟨by omega, q1.1⟩, by omega, q1.2⟩, if_pos q2]
            unfold pairZ
            refine Prod.ext ?_ rfl
            show _ = (((b0 % 16 * 4096 + b1 % 64 * 64 + b2 % 64 : Nat)) : Int)
            omega
          · rw [if_neg (by rw [decide_eq_true_eq]; exact fun g => q2 g.2.2)]
            unfold Lib.decodeN
            rw [if_neg c1, if_neg (by omega), if_pos ⟨by omega, ⟨by omega, q1.1⟩, by omega, q1.2⟩, if_neg q2]; rfl
        · rw [if_neg (by rw [decide_eq_true_eq]; exact fun g => q1 ⟨g.1, g.2.1⟩)]
          unfold Lib.decodeN
          rw [if_neg c1, if_neg (by omega), if_neg (by omega), if_neg (by omega)]; rfl
      · obtain ⟨r0, r1, r2⟩ := (isR_iff _).1 hr
        rw [decide_eq_true_eq]
        unfold u8V
        constructor
        · rintro ⟨a1, a2⟩
          by_cases d1 : ((b0 : Int) % 16 * 64 + (b1 : Int) % 64) * 64 + (b2 : Int) % 64 < 128
          · rw [if_pos d1] at a1; simp at a1
          · rw [if_neg d1] at a1 a2
            by_cases d2 : ((b0 : Int) % 16 * 64 + (b1 : Int) % 64) * 64 + (b2 : Int) % 64 < 2048
            · rw [if_pos d2] at a1; simp at a1
            · rw [if_neg d2, if_pos (by omega)] at a2
              have p1 := a2 1 (by omega)
              have p2 := a2 2 (by omega)
              rw [h1] at p1
              rw [h2] at p2
              replace p1 : 128 + (((b0 : Int) % 16 * 64 + (b1 : Int) % 64) * 64 + (b2 : Int) % 64) / 64 % 64 = (b1 : Int) := p1
              replace p2 : 128 + (((b0 : Int) % 16 * 64 + (b1 : Int) % 64) * 64 + (b2 : Int) % 64) % 64 = (b2 : Int) := p2
              omega
        · rintro ⟨a1, a2, a3, a4⟩
          rw [if_neg (by omega), if_neg (by omega), if_pos (by omega)]
          refine ⟨rfl, fun k hk => ?_⟩
          rcases (by omega : k = 0 ∨ k = 1 ∨ k = 2) with rfl | rfl | rfl
          · show 224 + (((b0 : Int) % 16 * 64 + (b1 : Int) % 64) * 64 + (b2 : Int) % 64) / 4096 = _
            rw [Nat.add_zero, h0]; omega
          · show 128 + (((b0 : Int) % 16 * 64 + (b1 : Int) % 64) * 64 + (b2 : Int) % 64) / 64 % 64 = _
            rw [h1]; omega
          · show 128 + (((b0 : Int) % 16 * 64 + (b1 : Int) % 64) * 64 + (b2 : Int) % 64) % 64 = _
            rw [h2]; omega
      · rw [Bool.eq_false_iff, Ne, isR_iff] at hr
        apply decide_eq_false
        omega
    · have e : Lib.decodeN (s.size - i) b0 (s.get! (i + 1)).toNat (s.get! (i + 2)).toNat (s.get! (i + 3)).toNat = (65533, 1) := by
        unfold Lib.decodeN; rw [if_neg c1, if_neg (by omega), if_neg (by omega), if_neg (by omega)]
      rw [e]
      exact out 3 (by omega) (by omega) hn (by rw [if_neg (by omega), if_neg (by omega), if_neg (by omega), if_pos (by omega)]; rfl)
  by_cases c5 : b0 < 248
  · by_cases hn : i + 4 ≤ s.size
    · have h1 := bt_get s (i + 1) (by omega)
      have h2 := bt_get s (i + 2) (by omega)
      have h3 := bt_get s (i + 3) (by omega)
      have l1 : (s.get! (i + 1)).toNat < 256 := UInt8.toNat_lt _
      have l2 : (s.get! (i + 2)).toNat < 256 := UInt8.toNat_lt _
      have l3 : (s.get! (i + 3)).toNat < 256 := UInt8.toNat_lt _
      generalize (s.get! (i + 1)).toNat = b1 at h1 l1 ⊢
      generalize (s.get! (i + 2)).toNat = b2 at h2 l2 ⊢
      generalize (s.get! (i + 3)).toNat = b3 at h3 l3 ⊢
      refine start 4 (by omega) hn (by rw [if_neg (by omega), if_neg (by omega), if_neg (by omega), if_neg (by omega), if_pos (by omega)]; rfl) _ (lead 4 8 (by omega) (by omega) (by rw [show wrap64 (7 - ((4 : Nat) : Int)) = 3 from wr _ (by decide) (by decide)]; decide) (by decide) (by rw [show wrap64 (7 - ((4 : Nat) : Int)) = 3 from wr _ (by decide) (by decide)]; decide) _ ?_)
      rw [Int.tmod_eq_emod_of_nonneg (by omega)]
      refine at_step s hs i 4 1 _ _ (by omega) hn (by omega) (by omega) ?_
      rw [h1]
      refine at_step s hs i 4 2 _ _ (by omega) hn (by omega) (by omega) ?_
      rw [h2]
      refine at_step s hs i 4 3 _ _ (by omega) hn (by omega) (by omega) ?_
      rw [h3]
      have en := at_end s hs i 4 ((((b0 : Int) % 8 * 64 + (b1 : Int) % 64) * 64 + (b2 : Int) % 64) * 64 + (b3 : Int) % 64) hn (decide (b1 / 64 = 2 ∧ b2 / 64 = 2 ∧ b3 / 64 = 2 ∧ b0 % 8 * 262144 + b1 % 64 * 4096 + b2 % 64 * 64 + b3 % 64 ≥ 65536 ∧ b0 % 8 * 262144 + b1 % 64 * 4096 + b2 % 64 * 64 + b3 % 64 ≤ 1114111)) ⟨fun hr => ?_, fun hr => ?_⟩
      · refine Ev.congr (fun k => rfl) (Eq.mp ?_ en)
        congr 1
        by_cases q1 : b1 / 64 = 2 ∧ b2 / 64 = 2 ∧ b3 / 64 = 2
        · by_cases q2 : b0 % 8 * 262144 + b1 % 64 * 4096 + b2 % 64 * 64 + b3 % 64 ≥ 65536 ∧ b0 % 8 * 262144 + b1 % 64 * 4096 + b2 % 64 * 64 + b3 % 64 ≤ 1114111
          · rw [if_pos (decide_eq_true ⟨q1.1, q1.2.1, q1.2.2, q2⟩)]
            unfold Lib.decodeN
            rw [if_neg c1, if_neg (by omega), if_neg (by omega), if_pos ⟨by omega, ⟨by omega, q1.1⟩, ⟨by omega, q1.2.1⟩, by omega, q1.2.2⟩, if_pos (by omega)]
            unfold pairZ
            refine Prod.ext ?_ rfl
            show _ = (((b0 % 8 * 262144 + b1 % 64 * 4096 + b2 % 64 * 64 + b3 % 64 : Nat)) : Int)
            omega
          · rw [if_neg (by rw [decide_eq_true_eq]; exact fun g => q2 g.2.2.2)]
            unfold Lib.decodeN
            rw [if_neg c1, if_neg (by omega), if_neg (by omega), if_pos ⟨by omega, ⟨by omega, q1.1⟩, ⟨by omega, q1.2.1⟩, by omega, q1.2.2⟩, if_neg (by omega)]; rfl
        · rw [if_neg (by rw [decide_eq_true_eq]; exact fun g => q1 ⟨g.1, g.2.1, g.2.2.1⟩)]
          unfold Lib.decodeN
          rw [if_neg c1, if_neg (by omega), if_neg (by omega), if_neg (by omega)]; rfl
      · obtain ⟨r0, r1, r2⟩ := (isR_iff _).1 hr
        rw [decide_eq_true_eq]
        unfold u8V
        constructor
        · rintro ⟨a1, a2⟩
          by_cases d1 : (((b0 : Int) % 8 * 64 + (b1 : Int) % 64) * 64 + (b2 : Int) % 64) * 64 + (b3 : Int) % 64 < 128
          · rw [if_pos d1] at a1; simp at a1
          · rw [if_neg d1] at a1 a2
            by_cases d2 : (((b0 : Int) % 8 * 64 + (b1 : Int) % 64) * 64 + (b2 : Int) % 64) * 64 + (b3 : Int) % 64 < 2048
            · rw [if_pos d2] at a1; simp at a1
            · rw [if_neg d2] at a1 a2
              by_cases d3 : (((b0 : Int) % 8 * 64 + (b1 : Int) % 64) * 64 + (b2 : Int) % 64) * 64 + (b3 : Int) % 64 < 65536
              · rw [if_pos d3] at a1; simp at a1
              · rw [if_neg d3] at a2
                have p1 := a2 1 (by omega)
                have p2 := a2 2 (by omega)
                have p3 := a2 3 (by omega)
                rw [h1] at p1
                rw [h2] at p2
                rw [h3] at p3
                replace p1 : 128 + ((((b0 : Int) % 8 * 64 + (b1 : Int) % 64) * 64 + (b2 : Int) % 64) * 64 + (b3 : Int) % 64) / 4096 % 64 = (b1 : Int) := p1
                replace p2 : 128 + ((((b0 : Int) % 8 * 64 + (b1 : Int) % 64) * 64 + (b2 : Int) % 64) * 64 + (b3 : Int) % 64) / 64 % 64 = (b2 : Int) := p2
                replace p3 : 128 + ((((b0 : Int) % 8 * 64 + (b1 : Int) % 64) * 64 + (b2 : Int) % 64) * 64 + (b3 : Int) % 64) % 64 = (b3 : Int) := p3
                refine ⟨?_, ?_, ?_, ?_, ?_⟩ <;> omega
        · rintro ⟨a1, a2, a3, a4, a5⟩
          rw [if_neg (by omega), if_neg (by omega), if_neg (by omega)]
          refine ⟨rfl, fun k hk => ?_⟩
          rcases (by omega : k = 0 ∨ k = 1 ∨ k = 2 ∨ k = 3) with rfl | rfl | rfl | rfl
          · show 240 + ((((b0 : Int) % 8 * 64 + (b1 : Int) % 64) * 64 + (b2 : Int) % 64) * 64 + (b3 : Int) % 64) / 262144 = _
            rw [Nat.add_zero, h0]; omega
          · show 128 + ((((b0 : Int) % 8 * 64 + (b1 : Int) % 64) * 64 + (b2 : Int) % 64) * 64 + (b3 : Int) % 64) / 4096 % 64 = _
            rw [h1]; omega
          · show 128 + ((((b0 : Int) % 8 * 64 + (b1 : Int) % 64) * 64 + (b2 : Int) % 64) * 64 + (b3 : Int) % 64) / 64 % 64 = _
            rw [h2]; omega
          · show 128 + ((((b0 : Int) % 8 * 64 + (b1 : Int) % 64) * 64 + (b2 : Int) % 64) * 64 + (b3 : Int) % 64) % 64 = _
            rw [h3]; omega
      · rw [Bool.eq_false_iff, Ne, isR_iff] at hr
        apply decide_eq_false
        omega
    · have e : Lib.decodeN (s.size - i) b0 (s.get! (i + 1)).toNat (s.get! (i + 2)).toNat (s.get! (i + 3)).toNat = (65533, 1) := by
        unfold Lib.decodeN; rw [if_neg c1, if_neg (by omega), if_neg (by omega), if_neg (by omega)]
      rw [e]
      exact out 4 (by omega) (by omega) hn (by rw [if_neg (by omega), if_neg (by omega), if_neg (by omega), if_neg (by omega), if_pos (by omega)]; rfl)
  · have e : Lib.decodeN (s.size - i) b0 (s.get! (i + 1)).toNat (s.get! (i + 2)).toNat (s.get! (i + 3)).toNat = (65533, 1) := by
      unfold Lib.decodeN; rw [if_neg c1, if_neg (by omega), if_neg (by omega), if_neg (by omega)]
    rw [e]
    exact zero (by rw [if_neg (by omega), if_neg (by omega), if_neg (by omega), if_neg (by omega), if_neg (by omega)])
def nums (s : ByteArray) : List Int := s.data.toList.map fun b => (b.toNat : Int)
theorem nums_length (s : ByteArray) : (nums s).length = s.size := by unfold nums; rw [List.length_map, Array.length_toList]; rfl
theorem str_nums (s : ByteArray) : strOfNums (nums s) = s := by
  unfold nums strOfNums
  rw [List.map_map]
  have : (fun n : Int => UInt8.ofNat n.toNat) ∘ (fun b : UInt8 => (b.toNat : Int)) = id := by
    funext b
    simp
  rw [this]
  simp
theorem nums_at (s : ByteArray) (i : Nat) (h : i < s.size) : (nums s)[i]'(by rw [nums_length]; exact h) = ((s.get! i).toNat : Int) := by
  unfold nums
  rw [List.getElem_map, Array.getElem_toList]
  show _ = ((s.data[i]!).toNat : Int)
  rw [getElem!_pos s.data i h]
theorem str_append (a b : List Int) : strOfNums (a ++ b) = strOfNums a ++ strOfNums b := by
  apply ByteArray.ext
  rw [ByteArray.data_append]
  unfold strOfNums
  simp
/-- A text with a byte behind it, some times. -/
def padS (s : ByteArray) (g : Int) (m : Nat) : ByteArray := strOfNums (nums s ++ List.replicate m g)
theorem padS_zero (s : ByteArray) (g : Int) : padS s g 0 = s := by unfold padS; rw [List.replicate_zero, List.append_nil, str_nums]
theorem padS_succ (s : ByteArray) (g : Int) (m : Nat) : padS s g m ++ strOfNums [g] = padS s g (m + 1) := by
  unfold padS
  rw [← str_append, List.append_assoc, List.replicate_succ']
theorem padS_size (s : ByteArray) (g : Int) (m : Nat) : (padS s g m).size = s.size + m := by unfold padS; rw [size_str, List.length_append, nums_length, List.length_replicate]
theorem str_get (l : List Int) (j : Nat) : ((strOfNums l).get! j).toNat = (if h : j < l.length then (l[j]).toNat % 256 else 0) := by
  show ((strOfNums l).data[j]!).toNat = _
  have hz : (strOfNums l).data.size = l.length := size_str l
  by_cases h : j < l.length
  · rw [dif_pos h, getElem!_pos _ j (by omega)]
    unfold strOfNums
    simp
  · rw [dif_neg h, getElem!_neg _ j (by omega)]; rfl
theorem padS_get (s : ByteArray) (g m j : Nat) (hg : g < 256) : ((padS s g m).get! j).toNat = if j < s.size then (s.get! j).toNat else if j < s.size + m then g else 0 := by
  unfold padS
  rw [str_get]
  by_cases h : j < s.size
  · rw [dif_pos (by rw [List.length_append, nums_length]; omega), if_pos h, List.getElem_append_left (by rw [nums_length]; exact h), nums_at s j h, Int.toNat_natCast]
    exact Nat.mod_eq_of_lt (UInt8.toNat_lt _)
  · rw [if_neg h]
    by_cases h2 : j < s.size + m
    · rw [dif_pos (by rw [List.length_append, nums_length, List.length_replicate]; omega), if_pos h2, List.getElem_append_right (by rw [nums_length]; omega), List.getElem_replicate]
      simp; omega
    · rw [dif_neg (by rw [List.length_append, nums_length, List.length_replicate]; omega), if_neg h2]
theorem slow_two (L b0 b1 b2 b3 lo hi : Nat) (h : 2 ≤ L) (h4 : L ≤ 4) : (Lib.slowN L b0 b1 b2 b3 L lo hi).2 > 1 ↔ (lo ≤ b1 ∧ b1 ≤ hi) ∧ (L ≤ 2 ∨ (128 ≤ b2 ∧ b2 ≤ 191)) ∧ (L ≤ 3 ∨ (128 ≤ b3 ∧ b3 ≤ 191)) := by
  unfold Lib.slowN
  rw [if_neg (by omega)]
  by_cases c1 : b1 < lo ∨ hi < b1
  · rw [if_pos c1]; simp; omega
  rw [if_neg c1]
  by_cases c2 : L ≤ 2
  · rw [if_pos c2]; simp; omega
  rw [if_neg c2]
  by_cases c3 : b2 < 128 ∨ 191 < b2
  · rw [if_pos c3]; simp; omega
  rw [if_neg c3]
  by_cases c4 : L ≤ 3
  · rw [if_pos c4]; simp; omega
  rw [if_neg c4]
  by_cases c5 : b3 < 128 ∨ 191 < b3
  · rw [if_pos c5]; simp; omega
  rw [if_neg c5]; simp; omega
def longN (b : Nat) : Nat := if b < 128 then 1 else if b < 192 then 0 else if b < 224 then 2 else if b < 240 then 3 else if b < 248 then 4 else 0
theorem long_nat (b : Nat) : spec_l1Long.f (b : Int) = some (longN b : Int) := by
  rw [long_ev]
  unfold longN
  repeat' split
  all_goals first | rfl | omega
theorem full_le (b : Nat) : Lib.firstT b % 8 ≤ 4 := by
  rcases Lib.firstT_cases b with h | h | h | h | h | h | h | h | h <;> rw [h] <;> decide
/-- Which first bytes have how long a rune. -/
theorem first_long (b : Nat) : (Lib.firstT b % 8 ≤ 1 ∧ (longN b ≤ 1 ∨ Lib.firstT b = 241)) ∨ (Lib.firstT b < 240 ∧ Lib.firstT b % 8 = longN b ∧ 2 ≤ longN b ∧ 128 ≤ Lib.accLo (Lib.firstT b / 16) ∧ Lib.accLo (Lib.firstT b / 16) ≤ Lib.accHi (Lib.firstT b / 16) ∧ Lib.accHi (Lib.firstT b / 16) ≤ 191) := by
  have hl : longN b = if b < 128 then 1 else if b < 192 then 0 else if b < 224 then 2 else if b < 240 then 3 else if b < 248 then 4 else 0 := rfl
  unfold Lib.firstT
  repeat' split
  all_goals first | (left; refine ⟨by decide, ?_⟩; first | exact Or.inr rfl | (left; rw [hl]; repeat' split; all_goals omega)) | (right; refine ⟨by decide, ?_, ?_, by decide, by decide, by decide⟩ <;> (rw [hl]; repeat' split) <;> omega)
/-- The byte at a place of the longer text. -/
def padN (s : ByteArray) (g L j : Nat) : Nat := if j < s.size then (s.get! j).toNat else if j < L then g else 0
def begunAt (s : ByteArray) (g : Nat) : Bool := decide ((Lib.decodeN (longN (s.get! 0).toNat) (padN s g (longN (s.get! 0).toNat) 0) (padN s g (longN (s.get! 0).toNat) 1) (padN s g (longN (s.get! 0).toNat) 2) (padN s g (longN (s.get! 0).toNat) 3)).2 > 1)
theorem dec_pad (s : ByteArray) (g L : Nat) (hg : g < 256) (h : s.size ≤ L) : Utf8.decode (padS s g (L - s.size)) 0 = Lib.decodeN L (padN s g L 0) (padN s g L 1) (padN s g L 2) (padN s g L 3) := by
  have e : s.size + (L - s.size) = L := by omega
  rw [Lib.decode_at, padS_get _ _ _ _ hg, padS_get _ _ _ _ hg, padS_get _ _ _ _ hg, padS_get _ _ _ _ hg, padS_size, e]
  rfl
theorem begun_pad (s : ByteArray) (g : Nat) (hg : g < 256) (h0 : 0 < s.size) (h3 : s.size ≤ 3) (r : Bool) (hL : s.size ≤ longN (s.get! 0).toNat)
    (hr : if begunAt s g = true then r = true else Ev (fun k => spec_l1Begun.l0 k s ((g + 1 : Nat) : Int)) r) :
    ∀ (d m : Nat), s.size + m + d = longN (s.get! 0).toNat → Ev (fun k => spec_l1Begun.l1 k s (g : Int) (padS s g m)) r := by
  have hb := bt_get s 0 h0
  have h4 : longN (s.get! 0).toNat ≤ 4 := by unfold longN; repeat' (first | omega | split)
  intro d
  induction d with
  | zero =>
    intro m hm
    have e : m = longN (s.get! 0).toNat - s.size := by omega
    have key := at_ev (padS s g m) (by rw [padS_size]; omega) 0 (by rw [padS_size]; omega)
    rw [e, dec_pad s g _ hg hL] at key
    refine Ev.step (f := fun k => (spec_l1At.f k (padS s g m) 0).bind fun bt123 => (if bt123.2 > 1 then (some true) else (spec_l1Begun.l0 k s (wrap64 ((g : Int) + 1))))) (fun k => ?_) ?_
    · simp only [spec_l1Begun.l1]
      rw [if_pos (by omega), show (0 : Int) = ((0 : Nat) : Int) from rfl, hb, long_nat, Option.bind_some, if_neg (by rw [padS_size]; omega)]
    · rw [e]
      refine Ev.bind key ?_
      unfold begunAt at hr
      unfold pairZ
      by_cases c : (Lib.decodeN (longN (s.get! 0).toNat) (padN s g (longN (s.get! 0).toNat) 0) (padN s g (longN (s.get! 0).toNat) 1) (padN s g (longN (s.get! 0).toNat) 2) (padN s g (longN (s.get! 0).toNat) 3)).2 > 1
      · rw [if_pos (decide_eq_true c)] at hr
        subst hr
        exact Ev.congr (fun k => by rw [if_pos (by simp only; omega)]) (Ev.now _)
      · rw [if_neg (by simp only [decide_eq_true_eq]; exact c)] at hr
        refine Ev.congr (fun k => ?_) hr
        rw [if_neg (by simp only; omega), wr _ (by omega) (by omega)]
        rfl
  | succ d ih =>
    intro m hm
    refine Ev.step (f := fun k => spec_l1Begun.l1 k s (g : Int) (padS s g (m + 1))) (fun k => ?_) (ih (m + 1) (by omega))
    simp only [spec_l1Begun.l1]
    rw [if_pos (by omega), show (0 : Int) = ((0 : Nat) : Int) from rfl, hb, long_nat, Option.bind_some, if_pos (by rw [padS_size]; omega), Option.bind_some, Int.emod_eq_of_lt (by omega) (by omega), if_pos (by rw [padS_size, size_str]; simp only [List.length_singleton]; omega), padS_succ]
theorem begun_out (s : ByteArray) (h0 : 0 < s.size) (h3 : s.size ≤ 3) (hL : s.size ≤ longN (s.get! 0).toNat) (r : Bool)
    (hr : r = true ↔ ∃ g, 128 ≤ g ∧ g < 192 ∧ begunAt s g = true) : ∀ (d g : Nat), g + d = 192 → 128 ≤ g → (∀ i, 128 ≤ i → i < g → begunAt s i = false) → Ev (fun k => spec_l1Begun.l0 k s (g : Int)) r := by
  intro d
  induction d with
  | zero =>
    intro g hg h1 h2
    have : r = false := by
      rw [Bool.eq_false_iff]
      intro h
      obtain ⟨i, i1, i2, i3⟩ := hr.1 h
      rw [h2 i i1 (by omega)] at i3
      cases i3
    subst this
    exact Ev.step (f := fun _ => some false) (fun k => by simp only [spec_l1Begun.l0]; rw [if_neg (by omega)]) (Ev.now _)
  | succ d ih =>
    intro g hg h1 h2
    refine Ev.step (f := fun k => spec_l1Begun.l1 k s (g : Int) s) (fun k => by simp only [spec_l1Begun.l0]; rw [if_pos (by omega)]) ?_
    have := begun_pad s g (by omega) h0 h3 r hL ?_ (longN (s.get! 0).toNat - s.size) 0 (by omega)
    · rw [padS_zero] at this; exact this
    · cases hb : begunAt s g with
      | true => rw [if_pos rfl]; exact hr.2 ⟨g, h1, by omega, hb⟩
      | false =>
        rw [if_neg (by simp)]
        refine ih (g + 1) (by omega) (by omega) (fun i i1 i2 => ?_)
        by_cases e : i = g
        · rw [e]; exact hb
        · exact h2 i i1 (by omega)
def begunV (s : ByteArray) : Bool := decide (0 < s.size) && !fullV s.size (Lib.firstT (s.get! 0).toNat) (s.get! 1).toNat (s.get! 2).toNat
theorem begun_ex (s : ByteArray) (h0 : 0 < s.size) (h3 : s.size ≤ 3) (hL : s.size < longN (s.get! 0).toNat) : begunV s = true ↔ ∃ g, 128 ≤ g ∧ g < 192 ∧ begunAt s g = true := by
  have h4 : longN (s.get! 0).toNat ≤ 4 := by unfold longN; repeat' (first | omega | split)
  unfold begunV begunAt fullV
  rw [decide_eq_true h0, Bool.true_and, if_neg (show ¬ s.size = 0 by omega)]
  have l0 := UInt8.toNat_lt (s.get! 0); have l1 := UInt8.toNat_lt (s.get! 1); have l2 := UInt8.toNat_lt (s.get! 2)
  have p0 : ∀ g, padN s g (longN (s.get! 0).toNat) 0 = (s.get! 0).toNat := fun g => if_pos h0
  have p1 : ∀ g, padN s g (longN (s.get! 0).toNat) 1 = if 1 < s.size then (s.get! 1).toNat else if 1 < longN (s.get! 0).toNat then g else 0 := fun g => rfl
  have p2 : ∀ g, padN s g (longN (s.get! 0).toNat) 2 = if 2 < s.size then (s.get! 2).toNat else if 2 < longN (s.get! 0).toNat then g else 0 := fun g => rfl
  have p3 : ∀ g, padN s g (longN (s.get! 0).toNat) 3 = if 3 < longN (s.get! 0).toNat then g else 0 := fun g => if_neg (by omega)
  simp only [p0, p1, p2, p3]
  clear p0 p1 p2 p3
  generalize (s.get! 0).toNat = b0 at *
  generalize (s.get! 1).toNat = b1 at *
  generalize (s.get! 2).toNat = b2 at *
  generalize s.size = n at *
  have hf := first_long b0
  have key : ∀ g, 128 ≤ g → g < 192 → (Lib.firstT b0 < 240 → (Lib.decodeN (longN b0) b0 (if 1 < n then b1 else if 1 < longN b0 then g else 0) (if 2 < n then b2 else if 2 < longN b0 then g else 0) (if 3 < longN b0 then g else 0)) = Lib.slowN (longN b0) b0 (if 1 < n then b1 else if 1 < longN b0 then g else 0) (if 2 < n then b2 else if 2 < longN b0 then g else 0) (if 3 < longN b0 then g else 0) (Lib.firstT b0 % 8) (Lib.accLo (Lib.firstT b0 / 16)) (Lib.accHi (Lib.firstT b0 / 16))) := fun g g1 g2 h => (Lib.slow_eq _ _ _ _ _ (by omega) (by repeat' (first | omega | split)) (by repeat' (first | omega | split)) (by repeat' (first | omega | split)) h).symm
  rcases hf with ⟨f1, f2⟩ | ⟨f1, f2, f3, f4, f5, f6⟩
  · rcases f2 with f2 | f2
    · omega
    · rw [f2, if_pos (by omega)]
      constructor
      · intro h; cases h
      · rintro ⟨g, _, _, h⟩
        rw [Lib.bad_eq _ _ _ _ _ l0 f2] at h
        cases h
  · rw [f2] at key ⊢
    rw [if_neg (show ¬ longN b0 ≤ n by omega)]
    generalize Lib.accLo (Lib.firstT b0 / 16) = lo at *
    generalize Lib.accHi (Lib.firstT b0 / 16) = hi at *
    generalize longN b0 = L at *
    have kk : ∀ g, 128 ≤ g → g < 192 → ((decide ((Lib.decodeN L b0 (if 1 < n then b1 else if 1 < L then g else 0) (if 2 < n then b2 else if 2 < L then g else 0) (if 3 < L then g else 0)).2 > 1) = true) ↔ (lo ≤ (if 1 < n then b1 else if 1 < L then g else 0) ∧ (if 1 < n then b1 else if 1 < L then g else 0) ≤ hi) ∧ (L ≤ 2 ∨ (128 ≤ (if 2 < n then b2 else if 2 < L then g else 0) ∧ (if 2 < n then b2 else if 2 < L then g else 0) ≤ 191)) ∧ (L ≤ 3 ∨ (128 ≤ (if 3 < L then g else 0) ∧ (if 3 < L then g else 0) ≤ 191))) := fun g g1 g2 => by
      rw [decide_eq_true_iff, key g g1 g2 f1]
      exact slow_two _ _ _ _ _ _ _ f3 h4
    clear key
    have lhs : (!(if 1 < n ∧ (b1 < lo ∨ hi < b1) then true else if 2 < n ∧ (b2 < 128 ∨ 191 < b2) then true else false)) = true ↔ (1 < n → lo ≤ b1 ∧ b1 ≤ hi) ∧ (2 < n → 128 ≤ b2 ∧ b2 ≤ 191) := by
      by_cases c1 : 1 < n ∧ (b1 < lo ∨ hi < b1)
      · rw [if_pos c1]
        refine ⟨fun h => (by cases h), fun h => ?_⟩
        have := h.1 c1.1
        omega
      · rw [if_neg c1]
        by_cases c2 : 2 < n ∧ (b2 < 128 ∨ 191 < b2)
        · rw [if_pos c2]
          refine ⟨fun h => (by cases h), fun h => ?_⟩
          have := h.2 c2.1
          omega
        · rw [if_neg c2]
          refine ⟨fun _ => ⟨fun h => by omega, fun h => by omega⟩, fun _ => rfl⟩
    rw [lhs]
    constructor
    · rintro ⟨q1, q2⟩
      by_cases c1 : 1 < n
      · refine ⟨128, by omega, by omega, (kk 128 (by omega) (by omega)).2 ?_⟩
        have := q1 c1
        rw [if_pos c1]
        refine ⟨this, ?_, ?_⟩
        · by_cases c2 : 2 < n
          · rw [if_pos c2]; exact Or.inr (q2 c2)
          · rw [if_neg c2]; split <;> omega
        · split <;> omega
      · refine ⟨lo, by omega, by omega, (kk lo (by omega) (by omega)).2 ?_⟩
        rw [if_neg c1, if_pos (show 1 < L by omega), if_neg (show ¬ 2 < n by omega)]
        refine ⟨⟨Nat.le_refl _, f5⟩, ?_, ?_⟩
        · split <;> omega
        · split <;> omega
    · rintro ⟨g, g1, g2, h⟩
      obtain ⟨k1, k2, _⟩ := (kk g g1 g2).1 h
      refine ⟨fun c => ?_, fun c => ?_⟩
      · rw [if_pos c] at k1; exact k1
      · rw [if_pos c] at k2; omega
theorem begun_s (s : ByteArray) : Ev (fun k => spec_l1Begun.f k s) (begunV s) := by
  have yes : Ev (fun k => spec_l1Begun.j0 k s true) false := Ev.step (f := fun _ => some false) (fun k => by simp only [spec_l1Begun.j0]; rw [if_pos trivial]) (Ev.now _)
  unfold spec_l1Begun.f
  by_cases h0 : s.size = 0
  · have e : begunV s = false := by unfold begunV; rw [decide_eq_false (by omega)]; rfl
    rw [e]
    exact Ev.congr (fun k => by rw [if_pos (by omega)]) yes
  have hb := bt_get s 0 (by omega)
  by_cases h3 : s.size ≤ 3
  · refine Ev.congr (f := fun k => spec_l1Begun.j0 k s (decide ((longN (s.get! 0).toNat : Int) ≤ (s.size : Int)))) (fun k => by rw [if_neg (by omega), if_neg (by omega), if_pos (by omega), show (0 : Int) = ((0 : Nat) : Int) from rfl, hb, long_nat, Option.bind_some]) ?_
    by_cases hL : s.size < longN (s.get! 0).toNat
    · rw [decide_eq_false (by omega)]
      refine Ev.step (f := fun k => spec_l1Begun.l0 k s ((128 : Nat) : Int)) (fun k => by simp only [spec_l1Begun.j0]; rw [if_neg (by simp)]; rfl) ?_
      exact begun_out s (by omega) h3 (by omega) _ (begun_ex s (by omega) h3 hL) 64 128 (by omega) (by omega) (fun i h1 h2 => by omega)
    · have e : begunV s = false := by
        unfold begunV fullV
        rw [if_neg h0]
        rcases first_long (s.get! 0).toNat with ⟨f1, _⟩ | ⟨_, f2, _⟩
        · rw [if_pos (by omega)]; simp
        · rw [if_pos (by omega)]; simp
      rw [e, decide_eq_true (by omega)]
      exact yes
  · have e : begunV s = false := by
      unfold begunV fullV
      have := full_le (s.get! 0).toNat
      rw [if_neg h0, if_pos (by omega)]; simp
    rw [e]
    exact Ev.congr (fun k => by rw [if_neg (by omega), if_pos (by omega)]) yes
theorem begun_i (s : ByteArray) : impl_IsBegun.f s = some (begunV s) := by
  unfold impl_IsBegun.f begunV utf8_FullRuneInString.f
  have e : (s.toList = ([] : List UInt8)) ↔ s.size = 0 := by
    rw [ByteArray.toList_eq]
    constructor
    · intro h; have := congrArg List.length h; rw [Array.length_toList] at this; exact this
    · intro h; exact List.eq_nil_of_length_eq_zero (by rw [Array.length_toList]; exact h)
  by_cases h : s.size = 0
  · rw [if_pos (e.2 h), decide_eq_false (by omega)]; rfl
  · rw [if_neg (fun g => h (e.1 g)), decide_eq_true (by omega)]; rfl

theorem or8 (x y : Int) (h0 : 0 ≤ x) (h1 : x < 256) (g0 : 0 ≤ y) (g1 : y < 256) : Go.bits .or .i64 (x * 256) y = x * 256 + y :=
  bits_join .i64 63 (by decide) (fun n h₀ h₁ => by rw [IntKind.wrap_i64]; omega) 8 (x * 256) y (by omega) (by omega) (by omega) g0 (by omega) (by omega)
def unitV (en : Int) (s : ByteArray) : Int := if en = 2 then bt s 0 * 256 + bt s 1 else bt s 1 * 256 + bt s 0
theorem unit_s (en : Int) (s : ByteArray) (h : 2 ≤ s.size) : spec_l2Unit.f en s = some (unitV en s) := by
  have h0 := bt_range s 0
  have h1 := bt_range s 1
  unfold spec_l2Unit.f unitV
  split
  · rw [if_pos (by omega), if_pos (by omega), wr (bt s 0) (by omega) (by omega), wr (bt s 1) (by omega) (by omega), wr (bt s 0 * 256) (by omega) (by omega), wr _ (by omega) (by omega)]
  · rw [if_pos (by omega), if_pos (by omega), wr (bt s 0) (by omega) (by omega), wr (bt s 1) (by omega) (by omega), wr (bt s 1 * 256) (by omega) (by omega), wr _ (by omega) (by omega)]
theorem unit_i (en : Int) (s : ByteArray) (h : 2 ≤ s.size) : impl_unitAt.f en s = some (unitV en s) := by
  have h0 := bt_range s 0
  have h1 := bt_range s 1
  unfold impl_unitAt.f unitV
  split
  · rw [if_pos (by omega), if_pos (by omega), wr (bt s 0) (by omega) (by omega), wr (bt s 1) (by omega) (by omega), wr (bt s 0 * 256) (by omega) (by omega), or8 _ _ h0.1 (by omega) h1.1 (by omega)]
  · rw [if_pos (by omega), if_pos (by omega), wr (bt s 0) (by omega) (by omega), wr (bt s 1) (by omega) (by omega), wr (bt s 1 * 256) (by omega) (by omega), or8 _ _ h1.1 (by omega) h0.1 (by omega)]
def unitsV (en : Int) : Bool := decide (en = 2 ∨ en = 3)
theorem units_s (en : Int) : spec_l2Units.f en = some (unitsV en) := by
  unfold spec_l2Units.f unitsV
  split
  · rename_i h; rw [decide_eq_true (Or.inl h)]
  · rename_i h; congr 1; rw [Bool.eq_iff_iff]; simp [h]
theorem units_i (en : Int) : impl_isUnits.f en = some (unitsV en) := by
  unfold impl_isUnits.f unitsV
  split
  · rename_i h; rw [decide_eq_true (Or.inl h)]
  · rename_i h; congr 1; rw [Bool.eq_iff_iff]; simp [h]
/-- What a decoder of a code may hold. -/
def heldV (en : Int) (s : ByteArray) : Bool :=
  if s.size = 0 then true else if en = 1 then begunV s else if unitsV en = true then (if s.size ≤ 3 then (if s.size = 1 then true else inB 55296 56319 (unitV en s)) else false) else false
theorem toList_nil (s : ByteArray) : (s.toList = ([] : List UInt8)) ↔ s.size = 0 := by
  rw [ByteArray.toList_eq]
  constructor
  · intro h; have := congrArg List.length h; rw [Array.length_toList] at this; exact this
  · intro h; exact List.eq_nil_of_length_eq_zero (by rw [Array.length_toList]; exact h)
def decV (en sh lo : Int) (s : ByteArray) : Bool :=
  if inB 1 5 en = true then (if inB 0 1 sh = true then (if inB 0 1000 lo = true then (if en = 5 then heldV en s else if sh + lo > 0 then false else heldV en s) else false) else false) else false
theorem decJ_s (b : Bool) (en sh lo : Int) (s : ByteArray) : Ev (fun k => spec_GoodDecoder.j0 k b en sh lo s) (if b = true then false else heldV en s) := by
  cases b with
  | true => exact Ev.step (f := fun _ => some false) (fun k => by simp only [spec_GoodDecoder.j0]; rw [if_pos trivial]) (Ev.now _)
  | false =>
    rw [if_neg (by simp)]
    unfold heldV
    by_cases h1 : en = 1
    · by_cases h0 : s.size = 0
      · rw [if_pos h0]
        exact Ev.step (f := fun _ => some true) (fun k => by simp only [spec_GoodDecoder.j0]; rw [if_neg (by simp), if_pos h1, if_pos ((toList_nil s).2 h0)]) (Ev.now _)
      · rw [if_neg h0, if_pos h1]
        exact Ev.step (f := fun k => (spec_l1Begun.f k s).bind fun t => some t) (fun k => by simp only [spec_GoodDecoder.j0]; rw [if_neg (by simp), if_pos h1, if_neg (fun g => h0 ((toList_nil s).1 g))]) (Ev.bind (begun_s s) (Ev.now _))
    · cases hu : unitsV en with
      | false =>
        have e : (s.toList == ([] : List UInt8)) = (if s.size = 0 then true else if en = 1 then begunV s else if false = true then (if s.size ≤ 3 then (if s.size = 1 then true else inB 55296 56319 (unitV en s)) else false) else false) := by
          by_cases h0 : s.size = 0
          · rw [if_pos h0, (toList_nil s).2 h0]; rfl
          · rw [if_neg h0, if_neg h1, if_neg (by simp), beq_eq_false_iff_ne]; exact fun g => h0 ((toList_nil s).1 g)
        rw [← e]
        exact Ev.step (f := fun _ => some (s.toList == ([] : List UInt8))) (fun k => by simp only [spec_GoodDecoder.j0]; rw [if_neg (by simp), if_neg h1, units_s, hu, Option.bind_some, if_neg (by simp)]) (Ev.now _)
      | true =>
        refine Ev.step (f := fun _ => some (if s.size = 0 then true else if en = 1 then begunV s else if true = true then (if s.size ≤ 3 then (if s.size = 1 then true else inB 55296 56319 (unitV en s)) else false) else false)) (fun k => ?_) (Ev.now _)
        simp only [spec_GoodDecoder.j0]
        rw [if_neg (by simp), if_neg h1, units_s, hu, Option.bind_some, if_pos rfl, if_neg h1, if_pos trivial]
        by_cases h2 : s.size < 2
        · rw [if_pos (by omega)]
          by_cases h0 : s.size = 0
          · rw [if_pos h0]
          · rw [if_neg h0, if_pos (by omega), if_pos (by omega)]
        · rw [if_neg (show ¬ (s.size : Int) < 2 by omega), if_neg (show ¬ s.size = 0 by omega)]
          by_cases h4 : s.size < 4
          · rw [if_pos (show (s.size : Int) < 4 by omega), if_pos (show s.size ≤ 3 by omega), if_neg (show ¬ s.size = 1 by omega), unit_s en s (by omega), Option.bind_some]
            unfold spec_l2High.f
            rw [in_s]; rfl
          · rw [if_neg (show ¬ (s.size : Int) < 4 by omega), if_neg (show ¬ s.size ≤ 3 by omega)]
theorem decJ_i (b : Bool) (en sh lo : Int) (s : ByteArray) : Ev (fun k => impl_GoodDecoder.j0 k b en sh lo s) (if b = true then false else heldV en s) := by
  refine Ev.step (f := fun _ => some (if b = true then false else heldV en s)) (fun k => ?_) (Ev.now _)
  simp only [impl_GoodDecoder.j0]
  cases b with
  | true => rfl
  | false =>
    rw [if_neg (show ¬ (false = true) by simp), if_neg (show ¬ (false = true) by simp)]
    unfold heldV
    by_cases h0 : s.size = 0
    · rw [if_pos ((toList_nil s).2 h0), if_pos h0]
    · rw [if_neg (fun g => h0 ((toList_nil s).1 g)), if_neg h0]
      by_cases h1 : en = 1
      · rw [if_pos h1, if_pos h1, begun_i]; rfl
      · rw [if_neg h1, if_neg h1, units_i, Option.bind_some]
        cases hu : unitsV en with
        | false => rw [if_neg (by simp), if_neg (by simp)]
        | true =>
          rw [if_pos rfl, if_pos rfl]
          by_cases h3 : s.size ≤ 3
          · rw [if_pos (by omega), if_pos h3]
            by_cases h4 : s.size = 1
            · rw [if_pos (by omega), if_pos h4]
            · rw [if_neg (by omega), if_neg h4, unit_i en s (by omega), Option.bind_some]
              unfold impl_isHigh.f
              rw [in_i]; rfl
          · rw [if_neg (by omega), if_neg h3]
theorem dec_s (en sh lo : Int) (s : ByteArray) : Ev (fun k => spec_GoodDecoder.f k en sh lo s) (decV en sh lo s) := by
  unfold spec_GoodDecoder.f spec_l2Code.f decV
  rw [in_s, in_s, in_s]
  simp only [Option.bind_some]
  cases hc : inB 1 5 en with
  | false => exact Ev.congr (fun k => by rw [if_neg (by simp)]) (decJ_s true en sh lo s)
  | true =>
    refine Ev.congr (fun k => by rw [if_pos rfl]) ?_
    rw [if_pos rfl]
    cases hs : inB 0 1 sh with
    | false => exact Ev.congr (fun k => by rw [if_neg (by simp)]) (decJ_s true en sh lo s)
    | true =>
      refine Ev.congr (fun k => by rw [if_pos rfl]) ?_
      rw [if_pos rfl]
      cases hl : inB 0 1000 lo with
      | false => exact Ev.congr (fun k => by rw [if_neg (by simp)]) (decJ_s true en sh lo s)
      | true =>
        refine Ev.congr (fun k => by rw [if_pos rfl]) ?_
        rw [if_pos rfl]
        have a1 := (inB_iff _ _ _).1 hs
        have a2 := (inB_iff _ _ _).1 hl
        by_cases h5 : en = 5
        · rw [if_pos h5]; exact Ev.congr (fun k => by rw [if_pos h5]) (decJ_s false en sh lo s)
        · rw [if_neg h5]
          refine Ev.congr (fun k => by rw [if_neg h5, wr (sh + lo) (by omega) (by omega)]) ?_
          have := decJ_s (decide (sh + lo > 0)) en sh lo s
          simpa only [decide_eq_true_eq] using this
theorem dec_i (en sh lo : Int) (s : ByteArray) : Ev (fun k => impl_GoodDecoder.f k en sh lo s) (decV en sh lo s) := by
  unfold impl_GoodDecoder.f impl_isCode.f decV
  rw [in_i, in_i, in_i]
  simp only [Option.bind_some]
  cases hc : inB 1 5 en with
  | false => exact Ev.congr (fun k => by rw [if_neg (by simp)]) (decJ_i true en sh lo s)
  | true =>
    refine Ev.congr (fun k => by rw [if_pos rfl]) ?_
    rw [if_pos rfl]
    cases hs : inB 0 1 sh with
    | false => exact Ev.congr (fun k => by rw [if_neg (by simp)]) (decJ_i true en sh lo s)
    | true =>
      refine Ev.congr (fun k => by rw [if_pos rfl]) ?_
      rw [if_pos rfl]
      cases hl : inB 0 1000 lo with
      | false => exact Ev.congr (fun k => by rw [if_neg (by simp)]) (decJ_i true en sh lo s)
      | true =>
        refine Ev.congr (fun k => by rw [if_pos rfl]) ?_
        rw [if_pos rfl]
        have a1 := (inB_iff _ _ _).1 hs
        have a2 := (inB_iff _ _ _).1 hl
        by_cases h5 : en = 5
        · rw [if_pos h5]; exact Ev.congr (fun k => by rw [if_pos h5]) (decJ_i false en sh lo s)
        · rw [if_neg h5]
          refine Ev.congr (fun k => by rw [if_neg h5, wr (sh + lo) (by omega) (by omega)]) ?_
          have := decJ_i (decide (sh + lo > 0)) en sh lo s
          simpa only [decide_eq_true_eq] using this
theorem sz_ev (en sh lo : Int) (s : ByteArray) (h : s.size ≤ 9223372036854775807) : laws_szDecoder.f en sh lo s 1048576 = some (if s.size > 1048576 then -1 else 1048576 - (s.size : Int)) := by
  unfold laws_szDecoder.f
  rw [wr _ (by omega) (by omega)]
  by_cases c : s.size > 1048576
  · rw [if_pos (by omega), if_pos c]
  · rw [if_neg (by omega), if_neg c]
/-- The marks of what was held: as many as pieces of L bytes. -/
def flushR (L : Nat) : Nat → Nat → List Int
  | 0, _ => []
  | f + 1, n => if n = 0 then [] else 65533 :: flushR L f (n - (if L ≤ n then L else n))
def flushL (L : Nat) : Nat → Nat → List Int
  | 0, _ => []
  | f + 1, n => if n = 0 then [] else ((if L ≤ n then L else n : Nat) : Int) :: flushL L f (n - (if L ≤ n then L else n))
theorem flush_len (L : Nat) : ∀ f n, (flushR L f n).length ≤ f ∧ (flushL L f n).length ≤ f := by
  intro f
  induction f with
  | zero => intro n; simp [flushR, flushL]
  | succ f ih =>
    intro n
    rw [flushR, flushL]
    have := ih (n - (if L ≤ n then L else n))
    split <;> simp only [List.length_nil, List.length_cons] <;> omega
def lenV (en : Int) : Nat := if unitsV en = true then 2 else 1
theorem ext_size (s : ByteArray) (i : Nat) (h : i ≤ s.size) : (s.extract i s.size).size = s.size - i := by rw [ByteArray.size_extract]; omega
theorem empty_of (s : ByteArray) (h : s.size = 0) : s = ⟨#[]⟩ := by
  apply ByteArray.ext
  exact Array.eq_empty_of_size_eq_zero h
theorem sflush_l (en sh lo : Int) (s0 : ByteArray) : ∀ (f : Nat) (s : ByteArray) (a b : List Int), s.size ≤ f → a.length + f ≤ 2000000 → b.length + f ≤ 2000000 → Ev (fun k => spec_l2Flush.l0 k a b s en sh lo s0) (en, sh, lo, (⟨#[]⟩ : ByteArray), a ++ flushR (lenV en) f s.size, b ++ flushL (lenV en) f s.size) := by
  intro f
  induction f with
  | zero =>
    intro s a b h ha hb
    refine Ev.step (f := fun _ => some (en, sh, lo, (⟨#[]⟩ : ByteArray), a ++ flushR (lenV en) 0 s.size, b ++ flushL (lenV en) 0 s.size)) (fun k => ?_) (Ev.now _)
    simp only [spec_l2Flush.l0]
    rw [if_pos ((toList_nil s).2 (by omega))]
    simp [flushR, flushL]
  | succ f ih =>
    intro s a b h ha hb
    by_cases h0 : s.size = 0
    · refine Ev.step (f := fun _ => some (en, sh, lo, (⟨#[]⟩ : ByteArray), a ++ flushR (lenV en) (f + 1) s.size, b ++ flushL (lenV en) (f + 1) s.size)) (fun k => ?_) (Ev.now _)
      simp only [spec_l2Flush.l0]
      rw [if_pos ((toList_nil s).2 h0), flushR, flushL, if_pos h0, if_pos h0, List.append_nil, List.append_nil]
    · have hn : ¬ s.toList = ([] : List UInt8) := fun g => h0 ((toList_nil s).1 g)
      rw [flushR, flushL, if_neg h0, if_neg h0]
      cases hu : unitsV en with
      | true =>
        have hL : lenV en = 2 := by unfold lenV; rw [if_pos hu]
        rw [hL] at ih ⊢
        by_cases h1 : 1 < s.size
        · rw [if_pos (show 2 ≤ s.size by omega)]
          have key := ih (s.extract 2 s.size) (a ++ [65533]) (b ++ [2]) (by rw [ext_size s 2 (by omega)]; omega) (by simp; omega) (by simp; omega)
          rw [ext_size s 2 (by omega), List.append_assoc, List.append_assoc] at key
          refine Ev.step (fun k => ?_) key
          simp only [spec_l2Flush.l0]
          rw [if_neg hn, units_s, hu, Option.bind_some, if_pos rfl, if_pos (by omega), if_pos (by omega), if_pos (by omega), if_pos (by omega)]
        · rw [if_neg (show ¬ 2 ≤ s.size by omega)]
          have key := ih (s.extract 1 s.size) (a ++ [65533]) (b ++ [1]) (by rw [ext_size s 1 (by omega)]; omega) (by simp; omega) (by simp; omega)
          have e : s.size - 1 = s.size - s.size := by omega
          rw [ext_size s 1 (by omega), List.append_assoc, List.append_assoc, e] at key
          have e1 : ((s.size : Nat) : Int) = 1 := by omega
          rw [e1]
          refine Ev.step (fun k => ?_) key
          simp only [spec_l2Flush.l0]
          rw [if_neg hn, units_s, hu, Option.bind_some, if_pos rfl, if_neg (by omega), if_pos (by omega), if_pos (by omega), if_pos (by omega)]
      | false =>
        have hL : lenV en = 1 := by unfold lenV; rw [hu]; rfl
        rw [hL] at ih ⊢
        rw [if_pos (show 1 ≤ s.size by omega)]
        have key := ih (s.extract 1 s.size) (a ++ [65533]) (b ++ [1]) (by rw [ext_size s 1 (by omega)]; omega) (by simp; omega) (by simp; omega)
        rw [ext_size s 1 (by omega), List.append_assoc, List.append_assoc] at key
        refine Ev.step (fun k => ?_) key
        simp only [spec_l2Flush.l0]
        rw [if_neg hn, units_s, hu, Option.bind_some, if_neg (by simp), if_pos (by omega), if_pos (by omega), if_pos (by omega)]
theorem iflush_l (en sh lo : Int) (L : Nat) (hL : 1 ≤ L) (hL2 : L ≤ 2) : ∀ (f : Nat) (s : ByteArray) (a b : List Int), s.size ≤ f → a.length + f ≤ 2000000 → b.length + f ≤ 2000000 → Ev (fun k => impl_Decoder_flush.l0 k a b (L : Int) en sh lo s) (a ++ flushR L f s.size, b ++ flushL L f s.size, en, sh, lo, (⟨#[]⟩ : ByteArray)) := by
  intro f
  induction f with
  | zero =>
    intro s a b h ha hb
    have e := empty_of s (by omega)
    refine Ev.step (f := fun _ => some (a ++ flushR L 0 s.size, b ++ flushL L 0 s.size, en, sh, lo, (⟨#[]⟩ : ByteArray))) (fun k => ?_) (Ev.now _)
    simp only [impl_Decoder_flush.l0]
    rw [if_pos ((toList_nil s).2 (by omega)), e]
    simp [flushR, flushL]
  | succ f ih =>
    intro s a b h ha hb
    by_cases h0 : s.size = 0
    · have e := empty_of s h0
      refine Ev.step (f := fun _ => some (a ++ flushR L (f + 1) s.size, b ++ flushL L (f + 1) s.size, en, sh, lo, (⟨#[]⟩ : ByteArray))) (fun k => ?_) (Ev.now _)
      simp only [impl_Decoder_flush.l0]
      rw [if_pos ((toList_nil s).2 h0), flushR, flushL, if_pos h0, if_pos h0, List.append_nil, List.append_nil, e]
    · have hn : ¬ s.toList = ([] : List UInt8) := fun g => h0 ((toList_nil s).1 g)
      rw [flushR, flushL, if_neg h0, if_neg h0]
      have em : mn (L : Int) (s.size : Int) = (((if L ≤ s.size then L else s.size : Nat)) : Int) := by unfold mn; split <;> split <;> omega
      generalize hm : (if L ≤ s.size then L else s.size) = m at *
      have hm2 : m ≤ s.size ∧ 1 ≤ m := by rw [← hm]; split <;> omega
      have key := ih (s.extract m s.size) (a ++ [65533]) (b ++ [(m : Int)]) (by rw [ext_size s m hm2.1]; omega) (by simp; omega) (by simp; omega)
      rw [ext_size s m hm2.1, List.append_assoc, List.append_assoc] at key
      refine Ev.step (fun k => ?_) key
      simp only [impl_Decoder_flush.l0]
      rw [if_neg hn, em, if_pos (by omega), if_pos (by omega), if_pos (by omega), if_pos (by omega), Int.toNat_natCast]
def flushV (en sh lo : Int) (s : ByteArray) : Int × Int × Int × ByteArray × List Int × List Int × Bool :=
  if decV en sh lo s = true then (en, sh, lo, ⟨#[]⟩, flushR (lenV en) s.size s.size, flushL (lenV en) s.size s.size, true) else (0, 0, 0, ⟨#[]⟩, [], [], false)
theorem flush_s (en sh lo : Int) (s : ByteArray) (h : s.size ≤ 2000000) : Ev (fun k => spec_FlushDecoder.f k en sh lo s) (flushV en sh lo s) := by
  unfold spec_FlushDecoder.f flushV
  refine Ev.bind (dec_s en sh lo s) ?_
  cases decV en sh lo s with
  | false => exact Ev.congr (fun k => by rw [if_neg (by simp)]; rfl) (Ev.now _)
  | true =>
    refine Ev.congr (fun k => by rw [if_pos rfl]) ?_
    rw [if_pos rfl]
    refine Ev.bind (g := fun k => spec_l2Flush.f k en sh lo s) (a := (en, sh, lo, (⟨#[]⟩ : ByteArray), flushR (lenV en) s.size s.size, flushL (lenV en) s.size s.size)) ?_ (Ev.now _)
    exact Ev.congr (fun k => by unfold spec_l2Flush.f; rfl) (by simpa using sflush_l en sh lo s s.size s [] [] (Nat.le_refl _) (by simpa using h) (by simpa using h))
theorem flush_i (en sh lo : Int) (s : ByteArray) (h : s.size ≤ 2000000) : Ev (fun k => impl_FlushDecoder.f k en sh lo s) (flushV en sh lo s) := by
  unfold impl_FlushDecoder.f flushV
  refine Ev.bind (dec_i en sh lo s) ?_
  cases decV en sh lo s with
  | false => exact Ev.congr (fun k => by rw [if_neg (by simp)]; rfl) (Ev.now _)
  | true =>
    refine Ev.congr (fun k => by rw [if_pos rfl]) ?_
    rw [if_pos rfl]
    refine Ev.bind (g := fun k => impl_Decoder_flush.f k en sh lo s) (a := (flushR (lenV en) s.size s.size, flushL (lenV en) s.size s.size, en, sh, lo, (⟨#[]⟩ : ByteArray))) ?_ (Ev.now _)
    unfold impl_Decoder_flush.f
    simp only [Option.bind_some]
    refine Ev.congr (f := fun k => impl_Decoder_flush.j0 k ([] : List Int) ([] : List Int) (lenV en : Int) en sh lo s) (fun k => ?_) ?_
    · rw [units_i, Option.bind_some]
      unfold lenV
      cases unitsV en <;> rfl
    · have hl : 1 ≤ lenV en ∧ lenV en ≤ 2 := by unfold lenV; split <;> omega
      have := iflush_l en sh lo (lenV en) hl.1 hl.2 s.size s [] [] (Nat.le_refl _) (by simpa using h) (by simpa using h)
      rw [List.nil_append, List.nil_append] at this
      exact Ev.step (fun k => by simp only [impl_Decoder_flush.j0]) this

theorem eqDec (a b c : Int) (s : ByteArray) : laws_eqDecoder.f a b c s a b c s = some true := by
  unfold laws_eqDecoder.f
  rw [if_pos rfl, if_pos rfl, if_pos rfl, if_pos rfl]

theorem FnExactFlushDecoder (en sh lo : Int) (s : ByteArray) (hm : s.size ≤ 9223372036854775807) : ∃ k, laws_FnExactFlushDecoder.f k en sh lo s = some true := by
  refine Ev.rounds (r := true) ?_
  unfold laws_FnExactFlushDecoder.f
  rw [sz_ev en sh lo s (by omega)]
  by_cases c : s.size > 1048576
  · rw [if_pos c]
    exact Ev.congr (fun k => by rw [Option.bind_some, if_pos (by omega)]) (Ev.now true)
  rw [if_neg c]
  refine Ev.congr (fun k => by rw [Option.bind_some, if_neg (by omega)]) ?_
  simp only [laws_toDecoder.f, Option.bind_some]
  have cs := flush_s en sh lo s (by omega)
  have ci := flush_i en sh lo s (by omega)
  have hl : (flushV en sh lo s).2.2.2.2.1.length ≤ 2000000 ∧ (flushV en sh lo s).2.2.2.2.2.1.length ≤ 2000000 := by
    have := flush_len (lenV en) s.size s.size
    unfold flushV
    split
    · exact ⟨by simp only; omega, by simp only; omega⟩
    · exact ⟨by simp, by simp⟩
  generalize flushV en sh lo s = q at cs ci hl
  obtain ⟨e1, s1, l1, t1, rs, ls, b⟩ := q
  obtain ⟨h1, h2⟩ := hl
  replace h1 : rs.length ≤ 2000000 := h1
  replace h2 : ls.length ≤ 2000000 := h2
  have j1 : Ev (fun k => laws_FnExactFlushDecoder.j1 k (iota 1 rs.length) (iota (1 + (rs.length : Int)) ls.length) (1 + (rs.length : Int) + (ls.length : Int)) false) true := by
    refine Ev.step (fun k => by simp only [laws_FnExactFlushDecoder.j1]; rw [if_neg (by simp)]) ?_
    refine Ev.bind (heldIntS_ev 1 rs.length (by omega) (by omega)) ?_
    refine Ev.congr (fun k => by rw [if_neg (by omega)]) (Ev.bind (heldIntS_ev (1 + (rs.length : Int)) ls.length (by omega) (by omega)) ?_)
    exact Ev.congr (fun k => by rw [if_neg (by omega), if_pos rfl]) (Ev.now true)
  have j0 : Ev (fun k => laws_FnExactFlushDecoder.j0 k rs ls b rs ls false en sh lo s e1 s1 l1 t1) true := by
    refine Ev.step (fun k => by simp only [laws_FnExactFlushDecoder.j0]; rw [if_neg (by simp)]) ?_
    refine Ev.bind (markIntS_ev rs 1 (by omega) (by omega)) (Ev.bind (markIntS_ev ls (1 + (rs.length : Int)) (by omega) (by omega)) (Ev.bind (heldIntS_ev 1 rs.length (by omega) (by omega)) ?_))
    refine Ev.congr (fun k => by rw [if_neg (by omega)]) (Ev.bind (heldIntS_ev (1 + (rs.length : Int)) ls.length (by omega) (by omega)) ?_)
    refine Ev.congr (fun k => by rw [if_neg (by omega), if_pos rfl]) ?_
    simp only [laws_toDecoder.f, Option.bind_some]
    refine Ev.bind ci ?_
    simp only [eqDec, Option.bind_some, if_true]
    refine Ev.bind (eqIntS_ev rs rs (by omega)) ?_
    simp only [decide_true, if_true]
    refine Ev.bind (eqIntS_ev ls ls (by omega)) ?_
    simp only [decide_true, if_true, bne_self_eq_false]
    exact j1
  refine Ev.bind cs (Ev.bind ci ?_)
  simp only [eqDec, Option.bind_some, if_true]
  refine Ev.bind (eqIntS_ev rs rs (by omega)) ?_
  simp only [decide_true, if_true]
  refine Ev.bind (eqIntS_ev ls ls (by omega)) ?_
  simp only [decide_true, if_true, bne_self_eq_false]
  exact j0

end Go.Proofs.YtbofmfilnjcihaaDoor.Pure
