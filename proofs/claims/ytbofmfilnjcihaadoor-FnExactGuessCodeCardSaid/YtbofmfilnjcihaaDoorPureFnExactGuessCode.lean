/-
  For every input the law FnExactGuessCode returns true; no condition.
-/
import Derived.Test.YtbofmfilnjcihaaDoorHFnExactGuessCodex5
import Derived.Lib.DecodeN
import Derived.Lib.ValidLaws
namespace Go.Proofs.YtbofmfilnjcihaaDoor.Pure
open Go.RowKit Go.Proofs.YtbofmfilnjcihaaDoor.HFnExactGuessCode Go.Proofs.YtbofmfilnjcihaaDoorW.PrintWords Go.Proofs.YtbofmfilnjcihaaDoorW.PrintLast
set_option linter.unusedSimpArgs false
set_option linter.unusedVariables false
theorem wr (i : Int) (h0 : -9223372036854775808 ≤ i) (h1 : i ≤ 9223372036854775807) : wrap64 i = i := by unfold wrap64; omega

theorem rd_nat (l : List Int) (j : Nat) : rd l (j : Int) = l.getD j 0 := by unfold rd; simp

theorem getD_at (l : List Int) (j : Nat) (h : j < l.length) : l.getD j 0 = l[j] := by simp [List.getD_eq_getElem?_getD, h]

theorem rd_at (l : List Int) (j : Nat) (h : j < l.length) : rd l (j : Int) = l[j] := by rw [rd_nat, getD_at l j h]

theorem drop_at (l : List Int) (j : Nat) (h : j < l.length) : l.drop j = l[j] :: l.drop (j + 1) := List.drop_eq_getElem_cons h

/-- Within bounds. -/
def inB (lo hi n : Int) : Bool := decide (lo ≤ n ∧ n ≤ hi)
theorem inB_iff (lo hi n : Int) : inB lo hi n = true ↔ lo ≤ n ∧ n ≤ hi := by simp [inB]

theorem in_s (a b c : Int) : spec_l1In.f a b c = some (inB b c a) := by
  unfold spec_l1In.f inB
  by_cases h : a ≥ b
  · rw [if_pos h]; simp [show b ≤ a from h]
  · rw [if_neg h]; simp [show ¬ b ≤ a from h]

def isR (a : Int) : Bool := inB 0 1114111 a && !inB 55296 57343 a
theorem gr_s (a : Int) : spec_GoodRune.f a = some (isR a) := by
  unfold spec_GoodRune.f isR
  rw [in_s, in_s]
  simp only [Option.bind_some]
  cases inB 0 1114111 a <;> simp

/-- The bytes of a rune. -/
def u8V (r : Int) : List Int :=
  if r < 128 then [r] else if r < 2048 then [192 + r / 64, 128 + r % 64] else if r < 65536 then [224 + r / 4096, 128 + r / 64 % 64, 128 + r % 64]
  else [240 + r / 262144, 128 + r / 4096 % 64, 128 + r / 64 % 64, 128 + r % 64]

theorem isR_range (r : Int) (h : isR r = true) : 0 ≤ r ∧ r ≤ 1114111 ∧ ¬ (55296 ≤ r ∧ r ≤ 57343) := by
  unfold isR at h
  rw [Bool.and_eq_true, inB_iff, Bool.not_eq_true', Bool.eq_false_iff, Ne, inB_iff] at h
  exact ⟨h.1.1, h.1.2, h.2⟩

theorem u8_s (r : Int) (h : isR r = true) : spec_l1Utf8.f r = some (strOfNums (u8V r)) := by
  obtain ⟨h0, h1, _⟩ := isR_range r h
  unfold spec_l1Utf8.f u8V
  by_cases c1 : r < 128
  · rw [if_pos c1, if_pos c1, Int.emod_eq_of_lt h0 (by omega)]
  · rw [if_neg c1, if_neg c1]
    by_cases c2 : r < 2048
    · rw [if_pos c2, if_pos c2, Int.tdiv_eq_ediv_of_nonneg h0, Int.tmod_eq_emod_of_nonneg h0, wr (r / 64) (by omega) (by omega), wr (192 + r / 64) (by omega) (by omega), wr (128 + r % 64) (by omega) (by omega), Int.emod_eq_of_lt (a := 192 + r / 64) (by omega) (by omega), Int.emod_eq_of_lt (a := 128 + r % 64) (by omega) (by omega)]
    · rw [if_neg c2, if_neg c2]
      by_cases c3 : r < 65536
      · rw [if_pos c3, if_pos c3, Int.tdiv_eq_ediv_of_nonneg h0, Int.tdiv_eq_ediv_of_nonneg h0, Int.tmod_eq_emod_of_nonneg h0, wr (r / 64) (by omega) (by omega), wr (r / 4096) (by omega) (by omega), Int.tmod_eq_emod_of_nonneg (a := r / 64) (by omega), wr (224 + r / 4096) (by omega) (by omega), wr (128 + r % 64) (by omega) (by omega), wr (128 + r / 64 % 64) (by omega) (by omega), Int.emod_eq_of_lt (a := 224 + r / 4096) (by omega) (by omega), Int.emod_eq_of_lt (a := 128 + r % 64) (by omega) (by omega), Int.emod_eq_of_lt (a := 128 + r / 64 % 64) (by omega) (by omega)]
      · rw [if_neg c3, if_neg c3, Int.tdiv_eq_ediv_of_nonneg h0, Int.tdiv_eq_ediv_of_nonneg h0, Int.tdiv_eq_ediv_of_nonneg h0, Int.tmod_eq_emod_of_nonneg h0, wr (r / 64) (by omega) (by omega), wr (r / 4096) (by omega) (by omega), wr (r / 262144) (by omega) (by omega), Int.tmod_eq_emod_of_nonneg (a := r / 64) (by omega), Int.tmod_eq_emod_of_nonneg (a := r / 4096) (by omega), wr (240 + r / 262144) (by omega) (by omega), wr (128 + r % 64) (by omega) (by omega), wr (128 + r / 64 % 64) (by omega) (by omega), wr (128 + r / 4096 % 64) (by omega) (by omega), Int.emod_eq_of_lt (a := 240 + r / 262144) (by omega) (by omega), Int.emod_eq_of_lt (a := 128 + r % 64) (by omega) (by omega), Int.emod_eq_of_lt (a := 128 + r / 64 % 64) (by omega) (by omega), Int.emod_eq_of_lt (a := 128 + r / 4096 % 64) (by omega) (by omega)]

/-- The bytes of runes. -/
def txt (l : List Int) : List Int := l.flatMap u8V

theorem u8V_bytes (r : Int) (h : isR r = true) : ∀ x ∈ u8V r, 0 ≤ x ∧ x < 256 := by
  obtain ⟨h0, h1, _⟩ := isR_range r h
  intro x hx
  unfold u8V at hx
  split at hx
  · simp only [List.mem_cons, List.not_mem_nil, or_false] at hx; omega
  · split at hx
    · simp only [List.mem_cons, List.not_mem_nil, or_false] at hx; omega
    · split at hx
      · simp only [List.mem_cons, List.not_mem_nil, or_false] at hx; omega
      · simp only [List.mem_cons, List.not_mem_nil, or_false] at hx; omega

theorem u8V_length (r : Int) : (u8V r).length ≤ 4 := by
  unfold u8V
  split
  · simp
  · split
    · simp
    · split <;> simp

theorem bytesOf_str (l : List Int) (h : ∀ x ∈ l, 0 ≤ x ∧ x < 256) : bytesOf (strOfNums l) = l := by
  unfold bytesOf strOfNums
  simp only [List.map_map]
  have : ∀ x ∈ l, ((fun b : UInt8 => (b.toNat : Int)) ∘ fun n : Int => UInt8.ofNat n.toNat) x = x := by
    intro x hx
    have := h x hx
    simp only [Function.comp, UInt8.toNat_ofNat']
    omega
  rw [List.map_congr_left this]
  simp

theorem size_str (l : List Int) : (strOfNums l).size = l.length := by
  unfold strOfNums
  simp [ByteArray.size]

theorem specText_l (l : List Int) (hl : l.length ≤ 17592186044416) (hr : ∀ x ∈ l, isR x = true) : ∀ (d j : Nat) (acc : List Int), j + d = l.length → acc.length ≤ 4 * j → Ev (fun k => spec_l1TextOf.l0 k acc l (l.length : Int) (j : Int)) (strOfNums (acc ++ txt (l.drop j))) := by
  intro d
  induction d with
  | zero =>
    intro j acc hj ha
    refine Ev.step (f := fun _ => some (strOfNums (acc ++ txt (l.drop j)))) (fun k => ?_) (Ev.now _)
    simp only [spec_l1TextOf.l0]
    rw [if_neg (by omega), List.drop_of_length_le (by omega)]
    simp [txt]
  | succ d ih =>
    intro j acc hj ha
    have hg := hr (l[j]'(by omega)) (List.getElem_mem _)
    have h4 := u8V_length (l[j]'(by omega))
    refine Ev.step (f := fun k => spec_l1TextOf.l0 k (acc ++ u8V (l[j]'(by omega))) l (l.length : Int) ((j + 1 : Nat) : Int)) (fun k => ?_) ?_
    · simp only [spec_l1TextOf.l0]
      rw [if_pos (by omega), if_pos (by omega), if_pos (by omega), rd_at l j (by omega), u8_s _ hg, wr _ (by omega) (by omega)]
      simp only [Option.bind_some]
      rw [size_str, if_pos (by omega), bytesOf_str _ (u8V_bytes _ hg)]
      rfl
    · have := ih (j + 1) (acc ++ u8V (l[j]'(by omega))) (by omega) (by rw [List.length_append]; omega)
      rw [drop_at l j (by omega), show txt (l[j]'(by omega) :: l.drop (j + 1)) = u8V (l[j]'(by omega)) ++ txt (l.drop (j + 1)) from List.flatMap_cons, ← List.append_assoc]
      exact this

theorem specText_ev (l : List Int) (hl : l.length ≤ 17592186044416) (hr : ∀ x ∈ l, isR x = true) : Ev (fun k => spec_l1TextOf.f k l) (strOfNums (txt l)) :=
  Ev.congr (fun k => by unfold spec_l1TextOf.f; rfl) (by simpa using specText_l l hl hr l.length 0 [] (by omega) (by simp))

theorem getB (s : ByteArray) (i : Nat) : bt s (i : Int) = ((s.get! i).toNat : Int) ∨ ¬ i < s.size := by
  by_cases h : i < s.size
  · left
    unfold bt
    rw [dif_pos (by simpa using h)]
    simp only [Int.toNat_natCast]
    show ((s[i]'h).toNat : Int) = ((s.data[i]!).toNat : Int)
    rw [getElem!_pos s.data i h]
    rfl
  · exact Or.inr h
theorem bt_get (s : ByteArray) (i : Nat) (h : i < s.size) : bt s (i : Int) = ((s.get! i).toNat : Int) := (getB s i).resolve_right (fun g => g h)

theorem str_ext (s : ByteArray) (i n : Nat) (h : i + n ≤ s.size) (l : List Int) (hl : ∀ x ∈ l, 0 ≤ x ∧ x ≤ 255) : ((strOfNums l).toList = (s.extract i (i + n)).toList) ↔ (l.length = n ∧ ∀ k, k < n → l.getD k 0 = bt s ((i + k : Nat) : Int)) := by
  rw [ByteArray.toList_eq, ByteArray.toList_eq, strOfNums_data, ByteArray.data_extract]
  have hz : (s.data.extract i (i + n)).size = n := by
    have : s.data.size = s.size := rfl
    rw [Array.size_extract]; omega
  have hg : ∀ k (hk : k < n), ((s.data.extract i (i + n)).toList[k]'(by rw [Array.length_toList, hz]; exact hk)).toNat = (bt s ((i + k : Nat) : Int)).toNat := by
    intro k hk
    rw [bt_get s (i + k) (by omega)]
    show _ = (((s.data[i + k]!).toNat : Int)).toNat
    rw [getElem!_pos s.data (i + k) (by show i + k < s.size; omega)]
    simp
  have hb : ∀ k, 0 ≤ bt s ((i + k : Nat) : Int) ∧ bt s ((i + k : Nat) : Int) ≤ 255 := fun k => bt_range _ _
  constructor
  · intro e
    have e1 : l.length = n := by
      have := congrArg List.length e
      rwa [List.length_map, Array.length_toList (xs := s.data.extract i (i + n)), hz] at this
    refine ⟨e1, fun k hk => ?_⟩
    have e2 : (l.map fun n => UInt8.ofNat n.toNat)[k]'(by rw [List.length_map]; omega) = (s.data.extract i (i + n)).toList[k]'(by rw [Array.length_toList, hz]; exact hk) := by simp only [e]
    have e3 := congrArg UInt8.toNat e2
    rw [hg k hk, List.getElem_map] at e3
    have h1 := hl (l[k]'(by omega)) (List.getElem_mem _)
    have h2 := hb k
    rw [UInt8.toNat_ofNat', Nat.mod_eq_of_lt (by omega)] at e3
    rw [getD_at l k (by omega)]
    omega
  · rintro ⟨e1, e2⟩
    refine List.ext_getElem (by rw [List.length_map, Array.length_toList (xs := s.data.extract i (i + n)), hz, e1]) fun k h1 h2 => ?_
    rw [List.length_map] at h1
    apply UInt8.toNat_inj.1
    rw [hg k (by omega), List.getElem_map, UInt8.toNat_ofNat']
    have h3 := hl (l[k]'(by omega)) (List.getElem_mem _)
    have h4 := e2 k (by omega)
    rw [getD_at l k (by omega)] at h4
    rw [Nat.mod_eq_of_lt (by omega), h4]

theorem u8V_range (r : Int) (h0 : 0 ≤ r) (h1 : r ≤ 1114111) : ∀ x ∈ u8V r, 0 ≤ x ∧ x ≤ 255 := by
  intro x hx
  unfold u8V at hx
  by_cases c1 : r < 128
  · rw [if_pos c1] at hx; simp only [List.mem_cons, List.not_mem_nil, or_false] at hx; omega
  · rw [if_neg c1] at hx
    by_cases c2 : r < 2048
    · rw [if_pos c2] at hx; simp only [List.mem_cons, List.not_mem_nil, or_false] at hx; omega
    · rw [if_neg c2] at hx
      by_cases c3 : r < 65536
      · rw [if_pos c3] at hx; simp only [List.mem_cons, List.not_mem_nil, or_false] at hx; omega
      · rw [if_neg c3] at hx; simp only [List.mem_cons, List.not_mem_nil, or_false] at hx; omega

theorem at_step (s : ByteArray) (hs : s.size ≤ 4611686018427387904) (i n x : Nat) (v : Int) (r : Int × Int) (h : x < n) (hi : i + n ≤ s.size) (h0 : 0 ≤ v) (h1 : v ≤ 1000000) (hr : Ev (fun k => spec_l1At.l0 k s (i : Int) (n : Int) (v * 64 + bt s ((i + x : Nat) : Int) % 64) ((x + 1 : Nat) : Int)) r) : Ev (fun k => spec_l1At.l0 k s (i : Int) (n : Int) v (x : Int)) r := by
  refine Ev.step (fun k => ?_) hr
  have hb := bt_range s ((i + x : Nat) : Int)
  simp only [spec_l1At.l0]
  rw [if_pos (by omega), wr ((i : Int) + (x : Int)) (by omega) (by omega), if_pos (by omega), if_pos (by omega), show (i : Int) + (x : Int) = ((i + x : Nat) : Int) from by omega, wr (bt s _) (by omega) (by omega), Int.tmod_eq_emod_of_nonneg hb.1, wr (v * 64) (by omega) (by omega), wr _ (by omega) (by omega), wr ((x : Int) + 1) (by omega) (by omega)]
  rfl

theorem at_end (s : ByteArray) (hs : s.size ≤ 4611686018427387904) (i n : Nat) (v : Int) (hi : i + n ≤ s.size) (b : Bool) (hb : (isR v = true → (((u8V v).length = n ∧ ∀ k, k < n → (u8V v).getD k 0 = bt s ((i + k : Nat) : Int)) ↔ b = true)) ∧ (isR v = false → b = false)) : Ev (fun k => spec_l1At.l0 k s (i : Int) (n : Int) v (n : Int)) (if b = true then (v, (n : Int)) else (65533, 1)) := by
  refine Ev.step (f := fun _ => some (if b = true then (v, (n : Int)) else (65533, 1))) (fun k => ?_) (Ev.now _)
  simp only [spec_l1At.l0]
  rw [if_neg (by omega), gr_s]
  cases e : isR v with
  | false => rw [hb.2 e]; simp
  | true =>
    obtain ⟨r0, r1, _⟩ := isR_range v e
    have key := (str_ext s i n hi (u8V v) (u8V_range v r0 r1)).trans (hb.1 e)
    rw [Option.bind_some, if_pos rfl, u8_s v e, Option.bind_some, wr ((i : Int) + (n : Int)) (by omega) (by omega), if_pos (by omega), if_pos (by omega), if_pos (by omega), show ((i : Int) + (n : Int)).toNat = i + n from by omega, Int.toNat_natCast]
    by_cases c : (strOfNums (u8V v)).toList = (s.extract i (i + n)).toList
    · rw [if_pos c, if_pos (key.1 c)]
    · rw [if_neg c, if_neg (fun g => c (key.2 g))]

theorem long_ev (b : Int) : spec_l1Long.f b = some (if b < 128 then 1 else if b < 192 then 0 else if b < 224 then 2 else if b < 240 then 3 else if b < 248 then 4 else 0) := by
  unfold spec_l1Long.f
  split
  · rfl
  · split
    · rfl
    · split
      · rfl
      · split
        · rfl
        · split <;> rfl

theorem isR_iff (v : Int) : isR v = true ↔ 0 ≤ v ∧ v ≤ 1114111 ∧ ¬ (55296 ≤ v ∧ v ≤ 57343) := by
  unfold isR
  rw [Bool.and_eq_true, inB_iff, Bool.not_eq_true', Bool.eq_false_iff, Ne, inB_iff, and_assoc]

def pairZ (p : Nat × Nat) : Int × Int := ((p.1 : Int), (p.2 : Int))

theorem at_ev (s : ByteArray) (hs : s.size ≤ 4611686018427387904) (i : Nat) (hi : i < s.size) : Ev (fun k => spec_l1At.f k s (i : Int)) (pairZ (Utf8.decode s i)) := by
  have bad : ∀ t, Ev (fun k => spec_l1At.j0 k s (i : Int) t true) (65533, 1) := fun t => Ev.step (f := fun _ => some (65533, 1)) (fun k => by simp [spec_l1At.j0]) (Ev.now _)
  rw [Lib.decode_at]
  have h0 := bt_get s i hi
  have l0 : (s.get! i).toNat < 256 := UInt8.toNat_lt _
  generalize hb0 : (s.get! i).toNat = b0 at h0 l0
  have start : ∀ (n : Nat), 1 ≤ n → i + n ≤ s.size → (if (b0 : Int) < 128 then (1 : Int) else if (b0 : Int) < 192 then 0 else if (b0 : Int) < 224 then 2 else if (b0 : Int) < 240 then 3 else if (b0 : Int) < 248 then 4 else 0) = (n : Int) → ∀ r, Ev (fun k => spec_l1At.j0 k s (i : Int) (n : Int) false) r → Ev (fun k => spec_l1At.f k s (i : Int)) r := by
    intro n hn1 hn hl r hr
    refine Ev.congr (fun k => ?_) hr
    unfold spec_l1At.f
    rw [if_pos (by omega), if_pos (by omega), h0, long_ev, hl, Option.bind_some, if_neg (by omega), wr _ (by omega) (by omega), show decide ((i : Int) + (n : Int) > (s.size : Int)) = false from decide_eq_false (by omega)]
  have out : ∀ (n : Nat), 1 ≤ n → n ≤ 4 → ¬ i + n ≤ s.size → (if (b0 : Int) < 128 then (1 : Int) else if (b0 : Int) < 192 then 0 else if (b0 : Int) < 224 then 2 else if (b0 : Int) < 240 then 3 else if (b0 : Int) < 248 then 4 else 0) = (n : Int) → Ev (fun k => spec_l1At.f k s (i : Int)) (65533, 1) := by
    intro n hn1 hn2 hn hl
    refine Ev.congr (fun k => ?_) (bad (n : Int))
    unfold spec_l1At.f
    rw [if_pos (by omega), if_pos (by omega), h0, long_ev, hl, Option.bind_some, if_neg (by omega), wr _ (by omega) (by omega), show decide ((i : Int) + (n : Int) > (s.size : Int)) = true from decide_eq_true (by omega)]
  have zero : (if (b0 : Int) < 128 then (1 : Int) else if (b0 : Int) < 192 then 0 else if (b0 : Int) < 224 then 2 else if (b0 : Int) < 240 then 3 else if (b0 : Int) < 248 then 4 else 0) = 0 → Ev (fun k => spec_l1At.f k s (i : Int)) (65533, 1) := by
    intro hl
    refine Ev.congr (fun k => ?_) (bad 0)
    unfold spec_l1At.f
    rw [if_pos (by omega), if_pos (by omega), h0, long_ev, hl, Option.bind_some, if_pos rfl]
  have lead : ∀ (n : Nat) (m : Int), 2 ≤ n → n ≤ 4 → shl .i64 1 (IntKind.u64.wrap (wrap64 (7 - (n : Int)))) = m → m ≠ 0 → 0 ≤ IntKind.u64.wrap (wrap64 (7 - (n : Int))) → ∀ r, Ev (fun k => spec_l1At.l0 k s (i : Int) (n : Int) (Int.tmod (b0 : Int) m) 1) r → Ev (fun k => spec_l1At.j0 k s (i : Int) (n : Int) false) r := by
    intro n m hn1 hn2 hm hm0 hw r hr
    refine Ev.step (f := fun k => spec_l1At.j1 k s (i : Int) (n : Int) (Int.tmod (b0 : Int) m)) (fun k => ?_) (Ev.step (fun k => ?_) hr)
    · simp only [spec_l1At.j0]
      rw [if_neg (by simp), if_pos (by omega), if_pos (by omega), if_pos (by omega), if_pos hw, hm, if_neg hm0, h0, wr (b0 : Int) (by omega) (by omega)]
    · simp only [spec_l1At.j1]
  by_cases c1 : b0 < 128
  · -- one byte
    have e : Lib.decodeN (s.size - i) b0 (s.get! (i + 1)).toNat (s.get! (i + 2)).toNat (s.get! (i + 3)).toNat = (b0, 1) := by
      unfold Lib.decodeN; rw [if_pos c1]
    rw [e]
    refine start 1 (by omega) (by omega) (by rw [if_pos (by omega)]; rfl) _ ?_
    have en := at_end s hs i 1 (b0 : Int) (by omega) true ⟨fun _ => ⟨fun _ => rfl, fun _ => ?_⟩, fun h => ?_⟩
    · refine Ev.step (f := fun k => spec_l1At.j1 k s (i : Int) ((1 : Nat) : Int) (b0 : Int)) (fun k => ?_) (Ev.step (fun k => ?_) en)
      · simp only [spec_l1At.j0]
        rw [if_neg (by simp), if_pos (by omega), if_pos (by omega), if_neg (by omega), h0, wr (b0 : Int) (by omega) (by omega)]
      · simp only [spec_l1At.j1]
        rfl
    · unfold u8V
      rw [if_pos (by omega)]
      refine ⟨rfl, fun k hk => ?_⟩
      have : k = 0 := by omega
      subst this
      exact h0.symm
    · rw [Bool.eq_false_iff, Ne, isR_iff] at h
      omega
  by_cases c2 : b0 < 192
  · have e : Lib.decodeN (s.size - i) b0 (s.get! (i + 1)).toNat (s.get! (i + 2)).toNat (s.get! (i + 3)).toNat = (65533, 1) := by
      unfold Lib.decodeN; rw [if_neg c1, if_neg (by omega), if_neg (by omega), if_neg (by omega)]
    rw [e]
    exact zero (by rw [if_neg (by omega), if_pos (by omega)])
  by_cases c3 : b0 < 224
  · by_cases hn : i + 2 ≤ s.size
    · have h1 := bt_get s (i + 1) (by omega)
      have l1 : (s.get! (i + 1)).toNat < 256 := UInt8.toNat_lt _
      generalize (s.get! (i + 1)).toNat = b1 at h1 l1 ⊢
      refine start 2 (by omega) hn (by rw [if_neg (by omega), if_neg (by omega), if_pos (by omega)]; rfl) _ (lead 2 32 (by omega) (by omega) (by rw [show wrap64 (7 - ((2 : Nat) : Int)) = 5 from wr _ (by decide) (by decide)]; decide) (by decide) (by rw [show wrap64 (7 - ((2 : Nat) : Int)) = 5 from wr _ (by decide) (by decide)]; decide) _ ?_)
      rw [Int.tmod_eq_emod_of_nonneg (by omega)]
      refine at_step s hs i 2 1 _ _ (by omega) hn (by omega) (by omega) ?_
      rw [h1]
      have en := at_end s hs i 2 ((b0 : Int) % 32 * 64 + (b1 : Int) % 64) hn (decide (b1 / 64 = 2 ∧ b0 % 32 * 64 + b1 % 64 ≥ 128)) ⟨fun hr => ?_, fun hr => ?_⟩
      · refine Ev.congr (fun k => rfl) (Eq.mp ?_ en)
        congr 1
        by_cases q1 : b1 / 64 = 2
        · by_cases q2 : b0 % 32 * 64 + b1 % 64 ≥ 128
          · rw [if_pos (decide_eq_true ⟨q1, q2⟩)]
            unfold Lib.decodeN
            rw [if_neg c1, if_pos ⟨by omega, by omega, q1⟩, if_pos q2]; rfl
          · rw [if_neg (by rw [decide_eq_true_eq]; exact fun g => q2 g.2)]
            unfold Lib.decodeN
            rw [if_neg c1, if_pos ⟨by omega, by omega, q1⟩, if_neg q2]; rfl
        · rw [if_neg (by rw [decide_eq_true_eq]; exact fun g => q1 g.1)]
          unfold Lib.decodeN
          rw [if_neg c1, if_neg (by omega), if_neg (by omega), if_neg (by omega)]; rfl
      · rw [decide_eq_true_eq]
        unfold u8V
        constructor
        · rintro ⟨a1, a2⟩
          by_cases d1 : (b0 : Int) % 32 * 64 + (b1 : Int) % 64 < 128
          · rw [if_pos d1] at a1; simp at a1
          · rw [if_neg d1, if_pos (by omega)] at a2
            have p1 := a2 1 (by omega)
            rw [h1] at p1
            replace p1 : 128 + ((b0 : Int) % 32 * 64 + (b1 : Int) % 64) % 64 = (b1 : Int) := p1
            omega
        · rintro ⟨a1, a2⟩
          rw [if_neg (by omega), if_pos (by omega)]
          refine ⟨rfl, fun k hk => ?_⟩
          rcases (by omega : k = 0 ∨ k = 1) with rfl | rfl
          · show 192 + ((b0 : Int) % 32 * 64 + (b1 : Int) % 64) / 64 = _
            rw [Nat.add_zero, h0]; omega
          · show 128 + ((b0 : Int) % 32 * 64 + (b1 : Int) % 64) % 64 = _
            rw [h1]; omega
      · rw [Bool.eq_false_iff, Ne, isR_iff] at hr
        omega
    · have e : Lib.decodeN (s.size - i) b0 (s.get! (i + 1)).toNat (s.get! (i + 2)).toNat (s.get! (i + 3)).toNat = (65533, 1) := by
        unfold Lib.decodeN; rw [if_neg c1, if_neg (by omega), if_neg (by omega), if_neg (by omega)]
      rw [e]
      exact out 2 (by omega) (by omega) hn (by rw [if_neg (by omega), if_neg (by omega), if_pos (by omega)]; rfl)
  by_cases c4 : b0 < 240
  · by_cases hn : i + 3 ≤ s.size
    · have h1 := bt_get s (i + 1) (by omega)
      have h2 := bt_get s (i + 2) (by omega)
      have l1 : (s.get! (i + 1)).toNat < 256 := UInt8.toNat_lt _
      have l2 : (s.get! (i + 2)).toNat < 256 := UInt8.toNat_lt _
      generalize (s.get! (i + 1)).toNat = b1 at h1 l1 ⊢
      generalize (s.get! (i + 2)).toNat = b2 at h2 l2 ⊢
      refine start 3 (by omega) hn (by rw [if_neg (by omega), if_neg (by omega), if_neg (by omega), if_pos (by omega)]; rfl) _ (lead 3 16 (by omega) (by omega) (by rw [show wrap64 (7 - ((3 : Nat) : Int)) = 4 from wr _ (by decide) (by decide)]; decide) (by decide) (by rw [show wrap64 (7 - ((3 : Nat) : Int)) = 4 from wr _ (by decide) (by decide)]; decide) _ ?_)
      rw [Int.tmod_eq_emod_of_nonneg (by omega)]
      refine at_step s hs i 3 1 _ _ (by omega) hn (by omega) (by omega) ?_
      rw [h1]
      refine at_step s hs i 3 2 _ _ (by omega) hn (by omega) (by omega) ?_
      rw [h2]
      have en := at_end s hs i 3 (((b0 : Int) % 16 * 64 + (b1 : Int) % 64) * 64 + (b2 : Int) % 64) hn (decide (b1 / 64 = 2 ∧ b2 / 64 = 2 ∧ b0 % 16 * 4096 + b1 % 64 * 64 + b2 % 64 ≥ 2048 ∧ (b0 % 16 * 4096 + b1 % 64 * 64 + b2 % 64 < 55296 ∨ (57344 ≤ b0 % 16 * 4096 + b1 % 64 * 64 + b2 % 64 ∧ b0 % 16 * 4096 + b1 % 64 * 64 + b2 % 64 ≤ 1114111)))) ⟨fun hr => ?_, fun hr => ?_⟩
      · refine Ev.congr (fun k => rfl) (Eq.mp ?_ en)
        congr 1
        by_cases q1 : b1 / 64 = 2 ∧ b2 / 64 = 2
        · by_cases q2 : b0 % 16 * 4096 + b1 % 64 * 64 + b2 % 64 ≥ 2048 ∧ (b0 % 16 * 4096 + b1 % 64 * 64 + b2 % 64 < 55296 ∨ (57344 ≤ b0 % 16 * 4096 + b1 % 64 * 64 + b2 % 64 ∧ b0 % 16 * 4096 + b1 % 64 * 64 + b2 % 64 ≤ 1114111))
          · rw [if_pos (decide_eq_true ⟨q1.1, q1.2, q2⟩)]
            unfold Lib.decodeN
            rw [if_neg c1, if_neg (by omega), if_pos ⟨by omega, ⟨by omega, q1.1⟩, by omega, q1.2⟩, if_pos q2]
            unfold pairZ
            refine Prod.ext ?_ rfl
            show _ = (((b0 % 16 * 4096 + b1 % 64 * 64 + b2 % 64 : Nat)) : Int)
            omega
          · rw [if_neg (by rw [decide_eq_true_eq]; exact fun g => q2 g.2.2)]
            unfold Lib.decodeN
            rw [if_neg c1, if_neg (by omega), if_pos ⟨by omega, ⟨by omega, q1.1⟩, by omega, q1.2⟩, if_neg q2]; rfl
        · rw [if_neg (by rw [decide_eq_true_eq]; exact fun g => q1 ⟨g.1, g.2.1⟩)]
          unfold Lib.decodeN
          rw [if_neg c1, if_neg (by omega), if_neg (by omega), if_neg (by omega)]; rfl
      · obtain ⟨r0, r1, r2⟩ := (isR_iff _).1 hr
        rw [decide_eq_true_eq]
        unfold u8V
        constructor
        · rintro ⟨a1, a2⟩
          by_cases d1 : ((b0 : Int) % 16 * 64 + (b1 : Int) % 64) * 64 + (b2 : Int) % 64 < 128
          · rw [if_pos d1] at a1; simp at a1
          · rw [if_neg d1] at a1 a2
            by_cases d2 : ((b0 : Int) % 16 * 64 + (b1 : Int) % 64) * 64 + (b2 : Int) % 64 < 2048
            · rw [if_pos d2] at a1; simp at a1
            · rw [if_neg d2, if_pos (by omega)] at a2
              have p1 := a2 1 (by omega)
              have p2 := a2 2 (by omega)
              rw [h1] at p1
              rw [h2] at p2
              replace p1 : 128 + (((b0 : Int) % 16 * 64 + (b1 : Int) % 64) * 64 + (b2 : Int) % 64) / 64 % 64 = (b1 : Int) := p1
              replace p2 : 128 + (((b0 : Int) % 16 * 64 + (b1 : Int) % 64) * 64 + (b2 : Int) % 64) % 64 = (b2 : Int) := p2
              omega
        · rintro ⟨a1, a2, a3, a4⟩
          rw [if_neg (by omega), if_neg (by omega), if_pos (by omega)]
          refine ⟨rfl, fun k hk => ?_⟩
          rcases (by omega : k = 0 ∨ k = 1 ∨ k = 2) with rfl | rfl | rfl
          · show 224 + (((b0 : Int) % 16 * 64 + (b1 : Int) % 64) * 64 + (b2 : Int) % 64) / 4096 = _
            rw [Nat.add_zero, h0]; omega
          · show 128 + (((b0 : Int) % 16 * 64 + (b1 : Int) % 64) * 64 + (b2 : Int) % 64) / 64 % 64 = _
            rw [h1]; omega
          · show 128 + (((b0 : Int) % 16 * 64 + (b1 : Int) % 64) * 64 + (b2 : Int) % 64) % 64 = _
            rw [h2]; omega
      · rw [Bool.eq_false_iff, Ne, isR_iff] at hr
        apply decide_eq_false
        omega
    · have e : Lib.decodeN (s.size - i) b0 (s.get! (i + 1)).toNat (s.get! (i + 2)).toNat (s.get! (i + 3)).toNat = (65533, 1) := by
        unfold Lib.decodeN; rw [if_neg c1, if_neg (by omega), if_neg (by omega), if_neg (by omega)]
      rw [e]
      exact out 3 (by omega) (by omega) hn (by rw [if_neg (by omega), if_neg (by omega), if_neg (by omega), if_pos (by omega)]; rfl)
  by_cases c5 : b0 < 248
  · by_cases hn : i + 4 ≤ s.size
    · have h1 := bt_get s (i + 1) (by omega)
      have h2 := bt_get s (i + 2) (by omega)
      have h3 := bt_get s (i + 3) (by omega)
      have l1 : (s.get! (i + 1)).toNat < 256 := UInt8.toNat_lt _
      have l2 : (s.get! (i + 2)).toNat < 256 := UInt8.toNat_lt _
      have l3 : (s.get! (i + 3)).toNat < 256 := UInt8.toNat_lt _
      generalize (s.get! (i + 1)).toNat = b1 at h1 l1 ⊢
      generalize (s.get! (i + 2)).toNat = b2 at h2 l2 ⊢
      generalize (s.get! (i + 3)).toNat = b3 at h3 l3 ⊢
      refine start 4 (by omega) hn (by rw [if_neg (by omega), if_neg (by omega), if_neg (by omega), if_neg (by omega), if_pos (by omega)]; rfl) _ (lead 4 8 (by omega) (by omega) (by rw [show wrap64 (7 - ((4 : Nat) : Int)) = 3 from wr _ (by decide) (by decide)]; decide) (by decide) (by rw [show wrap64 (7 - ((4 : Nat) : Int)) = 3 from wr _ (by decide) (by decide)]; decide) _ ?_)
      rw [Int.tmod_eq_emod_of_nonneg (by omega)]
      refine at_step s hs i 4 1 _ _ (by omega) hn (by omega) (by omega) ?_
      rw [h1]
      refine at_step s hs i 4 2 _ _ (by omega) hn (by omega) (by omega) ?_
      rw [h2]
      refine at_step s hs i 4 3 _ _ (by omega) hn (by omega) (by omega) ?_
      rw [h3]
      have en := at_end s hs i 4 ((((b0 : Int) % 8 * 64 + (b1 : Int) % 64) * 64 + (b2 : Int) % 64) * 64 + (b3 : Int) % 64) hn (decide (b1 / 64 = 2 ∧ b2 / 64 = 2 ∧ b3 / 64 = 2 ∧ b0 % 8 * 262144 + b1 % 64 * 4096 + b2 % 64 * 64 + b3 % 64 ≥ 65536 ∧ b0 % 8 * 262144 + b1 % 64 * 4096 + b2 % 64 * 64 + b3 % 64 ≤ 1114111)) ⟨fun hr => ?_, fun hr => ?_⟩
      · refine Ev.congr (fun k => rfl) (Eq.mp ?_ en)
        congr 1
        by_cases q1 : b1 / 64 = 2 ∧ b2 / 64 = 2 ∧ b3 / 64 = 2
        · by_cases q2 : b0 % 8 * 262144 + b1 % 64 * 4096 + b2 % 64 * 64 + b3 % 64 ≥ 65536 ∧ b0 % 8 * 262144 + b1 % 64 * 4096 + b2 % 64 * 64 + b3 % 64 ≤ 1114111
          · rw [if_pos (decide_eq_true ⟨q1.1, q1.2.1, q1.2.2, q2⟩)]
            unfold Lib.decodeN
            rw [if_neg c1, if_neg (by omega), if_neg (by omega), if_pos ⟨by omega, ⟨by omega, q1.1⟩, ⟨by omega, q1.2.1⟩, by omega, q1.2.2⟩, if_pos (by omega)]
            unfold pairZ
            refine Prod.ext ?_ rfl
            show _ = (((b0 % 8 * 262144 + b1 % 64 * 4096 + b2 % 64 * 64 + b3 % 64 : Nat)) : Int)
            omega
          · rw [if_neg (by rw [decide_eq_true_eq]; exact fun g => q2 g.2.2.2)]
            unfold Lib.decodeN
            rw [if_neg c1, if_neg (by omega), if_neg (by omega), if_pos ⟨by omega, ⟨by omega, q1.1⟩, ⟨by omega, q1.2.1⟩, by omega, q1.2.2⟩, if_neg (by omega)]; rfl
        · rw [if_neg (by rw [decide_eq_true_eq]; exact fun g => q1 ⟨g.1, g.2.1, g.2.2.1⟩)]
          unfold Lib.decodeN
          rw [if_neg c1, if_neg (by omega), if_neg (by omega), if_neg (by omega)]; rfl
      · obtain ⟨r0, r1, r2⟩ := (isR_iff _).1 hr
        rw [decide_eq_true_eq]
        unfold u8V
        constructor
        · rintro ⟨a1, a2⟩
          by_cases d1 : (((b0 : Int) % 8 * 64 + (b1 : Int) % 64) * 64 + (b2 : Int) % 64) * 64 + (b3 : Int) % 64 < 128
          · rw [if_pos d1] at a1; simp at a1
          · rw [if_neg d1] at a1 a2
            by_cases d2 : (((b0 : Int) % 8 * 64 + (b1 : Int) % 64) * 64 + (b2 : Int) % 64) * 64 + (b3 : Int) % 64 < 2048
            · rw [if_pos d2] at a1; simp at a1
            · rw [if_neg d2] at a1 a2
              by_cases d3 : (((b0 : Int) % 8 * 64 + (b1 : Int) % 64) * 64 + (b2 : Int) % 64) * 64 + (b3 : Int) % 64 < 65536
              · rw [if_pos d3] at a1; simp at a1
              · rw [if_neg d3] at a2
                have p1 := a2 1 (by omega)
                have p2 := a2 2 (by omega)
                have p3 := a2 3 (by omega)
                rw [h1] at p1
                rw [h2] at p2
                rw [h3] at p3
                replace p1 : 128 + ((((b0 : Int) % 8 * 64 + (b1 : Int) % 64) * 64 + (b2 : Int) % 64) * 64 + (b3 : Int) % 64) / 4096 % 64 = (b1 : Int) := p1
                replace p2 : 128 + ((((b0 : Int) % 8 * 64 + (b1 : Int) % 64) * 64 + (b2 : Int) % 64) * 64 + (b3 : Int) % 64) / 64 % 64 = (b2 : Int) := p2
                replace p3 : 128 + ((((b0 : Int) % 8 * 64 + (b1 : Int) % 64) * 64 + (b2 : Int) % 64) * 64 + (b3 : Int) % 64) % 64 = (b3 : Int) := p3
                refine ⟨?_, ?_, ?_, ?_, ?_⟩ <;> omega
        · rintro ⟨a1, a2, a3, a4, a5⟩
          rw [if_neg (by omega), if_neg (by omega), if_neg (by omega)]
          refine ⟨rfl, fun k hk => ?_⟩
          rcases (by omega : k = 0 ∨ k = 1 ∨ k = 2 ∨ k = 3) with rfl | rfl | rfl | rfl
          · show 240 + ((((b0 : Int) % 8 * 64 + (b1 : Int) % 64) * 64 + (b2 : Int) % 64) * 64 + (b3 : Int) % 64) / 262144 = _
            rw [Nat.add_zero, h0]; omega
          · show 128 + ((((b0 : Int) % 8 * 64 + (b1 : Int) % 64) * 64 + (b2 : Int) % 64) * 64 + (b3 : Int) % 64) / 4096 % 64 = _
            rw [h1]; omega
          · show 128 + ((((b0 : Int) % 8 * 64 + (b1 : Int) % 64) * 64 + (b2 : Int) % 64) * 64 + (b3 : Int) % 64) / 64 % 64 = _
            rw [h2]; omega
          · show 128 + ((((b0 : Int) % 8 * 64 + (b1 : Int) % 64) * 64 + (b2 : Int) % 64) * 64 + (b3 : Int) % 64) % 64 = _
            rw [h3]; omega
      · rw [Bool.eq_false_iff, Ne, isR_iff] at hr
        apply decide_eq_false
        omega
    · have e : Lib.decodeN (s.size - i) b0 (s.get! (i + 1)).toNat (s.get! (i + 2)).toNat (s.get! (i + 3)).toNat = (65533, 1) := by
        unfold Lib.decodeN; rw [if_neg c1, if_neg (by omega), if_neg (by omega), if_neg (by omega)]
      rw [e]
      exact out 4 (by omega) (by omega) hn (by rw [if_neg (by omega), if_neg (by omega), if_neg (by omega), if_neg (by omega), if_pos (by omega)]; rfl)
  · have e : Lib.decodeN (s.size - i) b0 (s.get! (i + 1)).toNat (s.get! (i + 2)).toNat (s.get! (i + 3)).toNat = (65533, 1) := by
      unfold Lib.decodeN; rw [if_neg c1, if_neg (by omega), if_neg (by omega), if_neg (by omega)]
    rw [e]
    exact zero (by rw [if_neg (by omega), if_neg (by omega), if_neg (by omega), if_neg (by omega), if_neg (by omega)])
/-- The runes of a text from a place on. -/
def runesFrom (s : ByteArray) : Nat → Nat → List Int
  | 0, _ => []
  | f + 1, pos => if pos < s.size then ((Utf8.decode s pos).1 : Int) :: runesFrom s f (pos + (Utf8.decode s pos).2) else []
theorem runesFrom_end (s : ByteArray) (f pos : Nat) (h : ¬ pos < s.size) : runesFrom s f pos = [] := by
  cases f with
  | zero => rfl
  | succ f => simp [runesFrom, h]
theorem width_pos (s : ByteArray) (pos : Nat) (h : pos < s.size) : 1 ≤ (Utf8.decode s pos).2 := by
  by_cases ha : (s[pos]'h).toNat < 128
  · rw [decode_ascii s pos h ha]
    exact Nat.le_refl _
  · exact (decode_high s pos h (by omega)).2
theorem width_le (s : ByteArray) (i : Nat) : (Utf8.decode s i).2 ≤ 4 := by
  rw [Lib.decode_at]
  unfold Lib.decodeN
  repeat' split
  all_goals simp

theorem runesFrom_len (s : ByteArray) : ∀ f pos, (runesFrom s f pos).length ≤ f := by
  intro f
  induction f with
  | zero => intro pos; simp [runesFrom]
  | succ f ih =>
    intro pos
    rw [runesFrom]
    split
    · have := ih (pos + (Utf8.decode s pos).2)
      simp only [List.length_cons]; omega
    · simp

theorem runes_l (s : ByteArray) (hs : s.size ≤ 1000000) : ∀ (f pos : Nat) (acc : List Int), s.size ≤ pos + f → acc.length ≤ pos → pos ≤ s.size + 8 → Ev (fun k => spec_l1Runes.l0 k s acc (pos : Int)) (acc ++ runesFrom s f pos) := by
  intro f
  induction f with
  | zero =>
    intro pos acc h1 h2 h3
    refine Ev.step (f := fun _ => some (acc ++ runesFrom s 0 pos)) (fun k => ?_) (Ev.now _)
    simp only [spec_l1Runes.l0]
    rw [if_neg (by omega)]
    simp [runesFrom]
  | succ f ih =>
    intro pos acc h1 h2 h3
    by_cases hp : pos < s.size
    · have w1 := width_pos s pos hp
      have w4 := width_le s pos
      have e1 : wrap64 ((pos : Int) + ((Utf8.decode s pos).2 : Int)) = ((pos + (Utf8.decode s pos).2 : Nat) : Int) := by rw [wr _ (by omega) (by omega)]; omega
      have ih' := ih (pos + (Utf8.decode s pos).2) (acc ++ [((Utf8.decode s pos).1 : Int)]) (by omega) (by simp; omega) (by omega)
      rw [runesFrom, if_pos hp]
      refine Ev.step (fun k => by simp only [spec_l1Runes.l0]; rw [if_pos (by omega)]) ?_
      refine Ev.bind (at_ev s (by omega) pos hp) ?_
      refine Ev.congr (fun k => ?_) (by simpa using ih')
      rw [if_pos (by omega)]
      show spec_l1Runes.l0 k s (acc ++ [((Utf8.decode s pos).1 : Int)]) (wrap64 ((pos : Int) + ((Utf8.decode s pos).2 : Int))) = _
      rw [e1]
      simp
    · refine Ev.step (f := fun _ => some (acc ++ runesFrom s (f + 1) pos)) (fun k => ?_) (Ev.now _)
      simp only [spec_l1Runes.l0]
      rw [if_neg (by omega), runesFrom_end s (f + 1) pos hp]
      simp

theorem runes_ev (s : ByteArray) (hs : s.size ≤ 1000000) : Ev (fun k => spec_l1Runes.f k s) (runesFrom s s.size 0) :=
  Ev.congr (fun k => by unfold spec_l1Runes.f; rfl) (by simpa using runes_l s hs s.size 0 [] (by omega) (by simp) (by omega))
theorem isR_of (v : Nat) (h : v < 55296 ∨ (57344 ≤ v ∧ v ≤ 1114111)) : isR (v : Int) = true := by rw [isR_iff]; omega
/-- What a step of the decoder gives: the bad mark, or a rune with its own bytes. -/
theorem dec_bytes (n b0 b1 b2 b3 : Nat) (hn : 1 ≤ n) (h0 : b0 < 256) (h1 : b1 < 256) (h2 : b2 < 256) (h3 : b3 < 256) :
    isR ((Lib.decodeN n b0 b1 b2 b3).1 : Int) = true ∧ ((Lib.decodeN n b0 b1 b2 b3 = (65533, 1)) ∨ (¬ (Lib.decodeN n b0 b1 b2 b3 = (65533, 1)) ∧ (Lib.decodeN n b0 b1 b2 b3).2 ≤ n ∧ u8V ((Lib.decodeN n b0 b1 b2 b3).1 : Int) = ([(b0 : Int), b1, b2, b3].take (Lib.decodeN n b0 b1 b2 b3).2))) := by
  have bad : isR ((65533 : Nat) : Int) = true := isR_of _ (by omega)
  unfold Lib.decodeN
  by_cases c0 : b0 < 128
  · rw [if_pos c0]
    refine ⟨isR_of _ (by simp only; omega), Or.inr ⟨by simp; omega, hn, ?_⟩⟩
    unfold u8V
    simp only
    rw [if_pos (by omega)]
    rfl
  rw [if_neg c0]
  by_cases c1 : b0 / 32 = 6 ∧ (1 < n ∧ b1 / 64 = 2)
  · rw [if_pos c1]
    by_cases d : b0 % 32 * 64 + b1 % 64 ≥ 128
    · rw [if_pos d]
      refine ⟨isR_of _ (by simp only; omega), Or.inr ⟨by simp, by simp only; omega, ?_⟩⟩
      unfold u8V
      simp only
      rw [if_neg (by omega), if_pos (by omega)]
      show [_, _] = [_, _]
      congr 1
      · omega
      · congr 1; omega
    · rw [if_neg d]; exact ⟨bad, Or.inl rfl⟩
  rw [if_neg c1]
  by_cases c2 : b0 / 16 = 14 ∧ (1 < n ∧ b1 / 64 = 2) ∧ (2 < n ∧ b2 / 64 = 2)
  · rw [if_pos c2]
    by_cases d : b0 % 16 * 4096 + b1 % 64 * 64 + b2 % 64 ≥ 2048 ∧ (b0 % 16 * 4096 + b1 % 64 * 64 + b2 % 64 < 55296 ∨ (57344 ≤ b0 % 16 * 4096 + b1 % 64 * 64 + b2 % 64 ∧ b0 % 16 * 4096 + b1 % 64 * 64 + b2 % 64 ≤ 1114111))
    · rw [if_pos d]
      refine ⟨isR_of _ d.2, Or.inr ⟨by simp, by simp only; omega, ?_⟩⟩
      unfold u8V
      simp only
      rw [if_neg (by omega), if_neg (by omega), if_pos (by omega)]
      show [_, _, _] = [_, _, _]
      congr 1
      · omega
      · congr 1
        · omega
        · congr 1; omega
    · rw [if_neg d]; exact ⟨bad, Or.inl rfl⟩
  rw [if_neg c2]
  by_cases c3 : b0 / 8 = 30 ∧ (1 < n ∧ b1 / 64 = 2) ∧ (2 < n ∧ b2 / 64 = 2) ∧ (3 < n ∧ b3 / 64 = 2)
  · rw [if_pos c3]
    by_cases d : b0 % 8 * 262144 + b1 % 64 * 4096 + b2 % 64 * 64 + b3 % 64 ≥ 65536 ∧ (b0 % 8 * 262144 + b1 % 64 * 4096 + b2 % 64 * 64 + b3 % 64 < 55296 ∨ (57344 ≤ b0 % 8 * 262144 + b1 % 64 * 4096 + b2 % 64 * 64 + b3 % 64 ∧ b0 % 8 * 262144 + b1 % 64 * 4096 + b2 % 64 * 64 + b3 % 64 ≤ 1114111))
    · rw [if_pos d]
      refine ⟨isR_of _ d.2, Or.inr ⟨by simp, by simp only; omega, ?_⟩⟩
      unfold u8V
      simp only
      rw [if_neg (by omega), if_neg (by omega), if_neg (by omega)]
      show [_, _, _, _] = [_, _, _, _]
      congr 1
      · omega
      · congr 1
        · omega
        · congr 1
          · omega
          · congr 1; omega
    · rw [if_neg d]; exact ⟨bad, Or.inl rfl⟩
  · rw [if_neg c3]; exact ⟨bad, Or.inl rfl⟩

def nums (s : ByteArray) : List Int := s.data.toList.map fun b => (b.toNat : Int)
theorem nums_length (s : ByteArray) : (nums s).length = s.size := by unfold nums; rw [List.length_map, Array.length_toList]; rfl
theorem str_nums (s : ByteArray) : strOfNums (nums s) = s := by
  unfold nums strOfNums
  rw [List.map_map]
  have : (fun n : Int => UInt8.ofNat n.toNat) ∘ (fun b : UInt8 => (b.toNat : Int)) = id := by
    funext b
    simp
  rw [this]
  simp
theorem nums_at (s : ByteArray) (i : Nat) (h : i < s.size) : (nums s)[i]'(by rw [nums_length]; exact h) = ((s.get! i).toNat : Int) := by
  unfold nums
  rw [List.getElem_map, Array.getElem_toList]
  show _ = ((s.data[i]!).toNat : Int)
  rw [getElem!_pos s.data i h]
theorem nums_take (s : ByteArray) (i n : Nat) (h : i + n ≤ s.size) (h4 : n ≤ 4) : ([((s.get! i).toNat : Int), ((s.get! (i + 1)).toNat : Int), ((s.get! (i + 2)).toNat : Int), ((s.get! (i + 3)).toNat : Int)]).take n = ((nums s).drop i).take n := by
  apply List.ext_getElem
  · simp only [List.length_take, List.length_drop, nums_length, List.length_cons, List.length_nil]; omega
  · intro j h1 h2
    have hj : j < n := by simp only [List.length_take, List.length_cons, List.length_nil] at h1; omega
    rw [List.getElem_take, List.getElem_take, List.getElem_drop, nums_at s (i + j) (by omega)]
    rcases (by omega : j = 0 ∨ j = 1 ∨ j = 2 ∨ j = 3) with rfl | rfl | rfl | rfl <;> rfl

theorem decL (s : ByteArray) (pos : Nat) (h : pos < s.size) : Lib.decodeL (s.data.toList.drop pos) = Utf8.decode s pos := by
  have g : ∀ j, (s.data.toList.drop pos).getD j 0 = s.get! (pos + j) := by
    intro j
    show _ = s.data[pos + j]!
    by_cases hj : pos + j < s.size
    · rw [getElem!_pos s.data (pos + j) hj, List.getD_eq_getElem?_getD, List.getElem?_drop, Array.getElem?_toList, Array.getElem?_eq_getElem hj]; rfl
    · rw [getElem!_neg s.data (pos + j) hj, List.getD_eq_getElem?_getD, List.getElem?_drop, Array.getElem?_toList, Array.getElem?_eq_none (by show s.size ≤ _; omega)]; rfl
  rw [Lib.decodeL_N, Lib.decode_at, g, g, g, g, List.length_drop, Array.length_toList]
  rfl

/-- The bytes of the runes of a text are the text just where it is valid. -/
theorem whole_key (s : ByteArray) : ∀ (f pos : Nat), s.size ≤ pos + f → pos ≤ s.size →
    (∀ x ∈ runesFrom s f pos, isR x = true) ∧ ((nums s).drop pos).length ≤ (txt (runesFrom s f pos)).length ∧
    (Lib.validD (s.data.toList.drop pos) = true → txt (runesFrom s f pos) = (nums s).drop pos) ∧ (Lib.validD (s.data.toList.drop pos) = false → ((nums s).drop pos).length < (txt (runesFrom s f pos)).length) := by
  intro f
  induction f with
  | zero =>
    intro pos h1 h2
    have hp : pos = s.size := by omega
    have e1 : s.data.toList.drop pos = [] := List.drop_of_length_le (by rw [Array.length_toList]; show s.size ≤ pos; omega)
    have e2 : (nums s).drop pos = [] := List.drop_of_length_le (by rw [nums_length]; omega)
    rw [e1, e2]
    exact ⟨fun x hx => (by cases hx), Nat.zero_le _, fun _ => rfl, fun h => (by rw [Lib.validD_nil] at h; cases h)⟩
  | succ f ih =>
    intro pos h1 h2
    by_cases hp : pos < s.size
    · have w1 := width_pos s pos hp
      have w4 := width_le s pos
      have key := dec_bytes (s.size - pos) (s.get! pos).toNat (s.get! (pos + 1)).toNat (s.get! (pos + 2)).toNat (s.get! (pos + 3)).toNat (by omega) (UInt8.toNat_lt _) (UInt8.toNat_lt _) (UInt8.toNat_lt _) (UInt8.toNat_lt _)
      rw [← Lib.decode_at] at key
      have hne : s.data.toList.drop pos ≠ [] := by
        intro e
        have := congrArg List.length e
        rw [List.length_drop, Array.length_toList] at this
        have hz : s.data.size = s.size := rfl
        simp only [List.length_nil] at this
        omega
      have vs := Lib.validD_step (s.data.toList.drop pos) hne
      rw [decL s pos hp, List.drop_drop] at vs
      rw [runesFrom, if_pos hp, show txt (((Utf8.decode s pos).1 : Int) :: runesFrom s f (pos + (Utf8.decode s pos).2)) = u8V ((Utf8.decode s pos).1 : Int) ++ txt (runesFrom s f (pos + (Utf8.decode s pos).2)) from List.flatMap_cons]
      obtain ⟨kr, kb⟩ := key
      rcases kb with kb | ⟨kn, kle, kb⟩
      · rw [kb] at vs kr ⊢
        simp only at kr ⊢
        replace vs : Lib.validD (s.data.toList.drop pos) = false := by rw [vs]; simp
        obtain ⟨i1, i2, i3, i4⟩ := ih (pos + 1) (by omega) (by omega)
        have l3 : (u8V ((65533 : Nat) : Int)).length = 3 := by decide
        rw [List.length_drop] at i2
        refine ⟨fun x hx => ?_, ?_, fun h => ?_, fun _ => ?_⟩
        · rcases List.mem_cons.1 hx with rfl | hx
          · exact kr
          · exact i1 x hx
        · rw [List.length_append, List.length_drop, nums_length] at *; omega
        · rw [vs] at h; cases h
        · rw [List.length_append, List.length_drop, nums_length] at *; omega
      · have hnb : ¬ ((Utf8.decode s pos).1 = 65533 ∧ (Utf8.decode s pos).2 = 1) := fun g => kn (Prod.ext g.1 g.2)
        rw [if_neg hnb] at vs
        generalize hd : Utf8.decode s pos = p at *
        obtain ⟨v, n⟩ := p
        simp only at *
        obtain ⟨i1, i2, i3, i4⟩ := ih (pos + n) (by omega) (by omega)
        rw [nums_take s pos n (by omega) w4] at kb
        have lk : (u8V (v : Int)).length = n := by rw [kb, List.length_take, List.length_drop, nums_length]; omega
        have ln : ((nums s).drop pos).length = n + ((nums s).drop (pos + n)).length := by rw [List.length_drop, List.length_drop, nums_length]; omega
        refine ⟨fun x hx => ?_, ?_, fun h => ?_, fun h => ?_⟩
        · rcases List.mem_cons.1 hx with rfl | hx
          · exact kr
          · exact i1 x hx
        · rw [List.length_append]; omega
        · rw [vs] at h
          rw [i3 h, kb, ← List.drop_drop, List.take_append_drop]
        · rw [vs] at h
          have := i4 h
          rw [List.length_append]; omega
    · have hp' : pos = s.size := by omega
      have e1 : s.data.toList.drop pos = [] := List.drop_of_length_le (by rw [Array.length_toList]; show s.size ≤ pos; omega)
      have e2 : (nums s).drop pos = [] := List.drop_of_length_le (by rw [nums_length]; omega)
      rw [e1, e2, runesFrom_end s (f + 1) pos hp]
      exact ⟨fun x hx => (by cases hx), Nat.zero_le _, fun _ => rfl, fun h => (by rw [Lib.validD_nil] at h; cases h)⟩

def wholeV (s : ByteArray) : Bool := if (s.size : Int) ≤ 1000 then Lib.validD s.data.toList else false
theorem whole_s (s : ByteArray) : Ev (fun k => spec_IsWhole.f k s) (wholeV s) := by
  unfold spec_IsWhole.f spec_l1Text.f wholeV
  by_cases hs : (s.size : Int) ≤ 1000
  · rw [if_pos hs]
    obtain ⟨i1, i2, i3, i4⟩ := whole_key s s.size 0 (by omega) (by omega)
    refine Ev.congr (fun k => by rw [Option.bind_some, if_pos (decide_eq_true hs)]) (Ev.bind (runes_ev s (by omega)) (Ev.bind (specText_ev _ (by have := runesFrom_len s s.size 0; omega) i1) ?_))
    rw [List.drop_zero, List.drop_zero] at *
    have e : ((strOfNums (txt (runesFrom s s.size 0))).toList == s.toList) = Lib.validD s.data.toList := by
      cases hv : Lib.validD s.data.toList with
      | true => rw [i3 hv, str_nums]; simp
      | false =>
        have hl := i4 hv
        rw [beq_eq_false_iff_ne]
        intro h
        rw [ByteArray.toList_eq, ByteArray.toList_eq] at h
        have := congrArg List.length h
        rw [Array.length_toList, Array.length_toList] at this
        replace this : (strOfNums (txt (runesFrom s s.size 0))).size = s.size := this
        rw [size_str] at this
        rw [nums_length] at hl
        omega
    rw [e]
    exact Ev.now _
  · rw [if_neg hs]
    exact Ev.congr (fun k => by rw [Option.bind_some, if_neg (by simp; omega)]) (Ev.now _)
theorem whole_i (s : ByteArray) : impl_IsWhole.f s = some (wholeV s) := by
  unfold impl_IsWhole.f wholeV utf8_ValidString.f
  by_cases hs : (s.size : Int) ≤ 1000
  · rw [if_pos hs, if_pos hs, if_pos (by omega)]; rfl
  · rw [if_neg hs, if_neg hs]
/-- A text begins with these bytes. -/
def pre2 (s : ByteArray) (l : List UInt8) : Bool := if (s.size : Int) ≥ 2 then (s.extract 0 2).toList == l else false
def pre3 (s : ByteArray) (l : List UInt8) : Bool := if (s.size : Int) ≥ 3 then (s.extract 0 3).toList == l else false
theorem prefix2 (s : ByteArray) (a b : UInt8) : strings_HasPrefix.f s (⟨#[a, b]⟩ : ByteArray) = some (pre2 s [a, b]) := by
  unfold strings_HasPrefix.f stringslite_HasPrefix.f pre2
  have e : (((⟨#[a, b]⟩ : ByteArray).size : Nat) : Int) = 2 := rfl
  have t : (⟨#[a, b]⟩ : ByteArray).toList = [a, b] := by rw [ByteArray.toList_eq]
  rw [e, t]
  by_cases h : (s.size : Int) ≥ 2
  · rw [if_pos h, if_pos (by omega), if_pos (by omega), if_pos h]; rfl
  · rw [if_neg h, if_neg h]; rfl
theorem prefix3 (s : ByteArray) (a b c : UInt8) : strings_HasPrefix.f s (⟨#[a, b, c]⟩ : ByteArray) = some (pre3 s [a, b, c]) := by
  unfold strings_HasPrefix.f stringslite_HasPrefix.f pre3
  have e : (((⟨#[a, b, c]⟩ : ByteArray).size : Nat) : Int) = 3 := rfl
  have t : (⟨#[a, b, c]⟩ : ByteArray).toList = [a, b, c] := by rw [ByteArray.toList_eq]
  rw [e, t]
  by_cases h : (s.size : Int) ≥ 3
  · rw [if_pos h, if_pos (by omega), if_pos (by omega), if_pos h]; rfl
  · rw [if_neg h, if_neg h]; rfl
def guessV (s : ByteArray) : Int × Int × Bool :=
  if (s.size : Int) > 1000 then (0, 0, false) else if pre2 s [254, 255] = true then (2, 2, true) else if pre2 s [255, 254] = true then (3, 2, true) else if pre3 s [239, 187, 191] = true then (1, 3, true) else if wholeV s = true then (1, 0, true) else (4, 0, true)
theorem guess_i (s : ByteArray) : impl_GuessCode.f s = some (guessV s) := by
  unfold impl_GuessCode.f guessV
  rw [prefix2, prefix2, prefix3, whole_i]
  simp only [Option.bind_some]
  by_cases h : (s.size : Int) > 1000
  · rw [if_pos h, if_pos h]
  rw [if_neg h, if_neg h]
  cases pre2 s [254, 255] <;> cases pre2 s [255, 254] <;> cases pre3 s [239, 187, 191] <;> cases wholeV s <;> rfl
theorem guess_j2 (s : ByteArray) (b : Bool) : Ev (fun k => spec_GuessCode.j2 k s b) (if b = true then (1, 3, true) else if wholeV s = true then (1, 0, true) else (4, 0, true)) := by
  cases b with
  | true => exact Ev.step (f := fun _ => some (1, 3, true)) (fun k => by simp [spec_GuessCode.j2]) (Ev.now _)
  | false =>
    refine Ev.step (fun k => by simp only [spec_GuessCode.j2]; rw [if_neg (by simp)]) (Ev.bind (whole_s s) ?_)
    cases wholeV s with
    | true => exact Ev.congr (fun k => by rw [if_pos rfl]; rfl) (Ev.now _)
    | false => exact Ev.congr (fun k => by rw [if_neg (by simp)]; rfl) (Ev.now _)
theorem guess_j1 (s : ByteArray) (b : Bool) : Ev (fun k => spec_GuessCode.j1 k s b) (if b = true then (3, 2, true) else if pre3 s [239, 187, 191] = true then (1, 3, true) else if wholeV s = true then (1, 0, true) else (4, 0, true)) := by
  cases b with
  | true => exact Ev.step (f := fun _ => some (3, 2, true)) (fun k => by simp [spec_GuessCode.j1]) (Ev.now _)
  | false =>
    refine Ev.step (f := fun k => spec_GuessCode.j2 k s (pre3 s [239, 187, 191])) (fun k => ?_) (guess_j2 s _)
    simp only [spec_GuessCode.j1]
    rw [if_neg (by simp)]
    unfold pre3
    by_cases h : (s.size : Int) ≥ 3
    · rw [if_pos h, if_pos (by omega), if_pos (by omega), if_pos h]
    · rw [if_neg h, if_neg h]
theorem guess_j0 (s : ByteArray) (b : Bool) : Ev (fun k => spec_GuessCode.j0 k s b) (if b = true then (2, 2, true) else if pre2 s [255, 254] = true then (3, 2, true) else if pre3 s [239, 187, 191] = true then (1, 3, true) else if wholeV s = true then (1, 0, true) else (4, 0, true)) := by
  cases b with
  | true => exact Ev.step (f := fun _ => some (2, 2, true)) (fun k => by simp [spec_GuessCode.j0]) (Ev.now _)
  | false =>
    refine Ev.step (f := fun k => spec_GuessCode.j1 k s (pre2 s [255, 254])) (fun k => ?_) (guess_j1 s _)
    simp only [spec_GuessCode.j0]
    rw [if_neg (by simp)]
    unfold pre2
    by_cases h : (s.size : Int) ≥ 2
    · rw [if_pos h, if_pos (by omega), if_pos (by omega), if_pos h]
    · rw [if_neg h, if_neg h]
theorem guess_s (s : ByteArray) : Ev (fun k => spec_GuessCode.f k s) (guessV s) := by
  unfold spec_GuessCode.f spec_l1Text.f guessV
  by_cases hs : (s.size : Int) > 1000
  · rw [if_pos hs]
    exact Ev.congr (fun k => by rw [Option.bind_some, if_neg (by simp; omega)]) (Ev.now _)
  rw [if_neg hs]
  refine Ev.congr (f := fun k => spec_GuessCode.j0 k s (pre2 s [254, 255])) (fun k => ?_) (guess_j0 s _)
  rw [Option.bind_some, if_pos (decide_eq_true (by omega))]
  unfold pre2
  by_cases h : (s.size : Int) ≥ 2
  · rw [if_pos h, if_pos (by omega), if_pos (by omega), if_pos h]
  · rw [if_neg h, if_neg h]

theorem FnExactGuessCode : laws_FnExactGuessCode.Pure := by
  intro s hm
  refine Ev.rounds (r := true) ?_
  unfold laws_FnExactGuessCode.f
  by_cases h : (s.size : Int) > 1048576
  · exact Ev.congr (fun k => by rw [if_pos h]) (Ev.now true)
  · refine Ev.congr (fun k => by rw [if_neg h]) (Ev.bind (guess_s s) ?_)
    exact Ev.congr (fun k => by rw [guess_i]; simp) (Ev.now true)

end Go.Proofs.YtbofmfilnjcihaaDoor.Pure
