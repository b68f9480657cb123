/- Written by wip/pr.py of this session, for the law FnExactEncodeAll: Lean functions with the answers of the program's, and the proofs of that; where the kit's print has no word, by hand. -/
import Derived.Test.YtbofmfilnjcihaaHFnExactEncodeAllx0
import Derived.Test.YtbofmfilnjcihaaHFnExactEncodeAllx5
import Derived.Test.YtbofmfilnjcihaaHFnExactEncodeAllx6
namespace Go.Proofs.Ytbofmfilnjcihaa.HFnExactEncodeAll
open Go.RowKit Go.Proofs.YtbofmfilnjcihaaW.PrintWords Go.Proofs.YtbofmfilnjcihaaW.PrintLast Go.Proofs.YtbofmfilnjcihaaW.PrintMore
attribute [local go_sem] max2_int min2_int max_two min_two max_three min_three max_four min_four   -- for this text's walks alone
set_option linter.unusedVariables false
set_option linter.unusedSimpArgs false

/-! ### impl_units: function 43 -/
def impl_units.f (a0 : Int) (a1 : Int) : Option (ByteArray) := if a1 < 65536 then ((impl_unit.f a0 a1).bind fun t172 => (some t172)) else ((impl_unit.f a0 (wrap64 (55296 + ((wrap64 (a1 - 65536)) / 1024)))).bind fun t173 => ((impl_unit.f a0 (wrap64 (56320 + (Go.bits .and .i64 (wrap64 (a1 - 65536)) 1023)))).bind fun t174 => (if t173.size + t174.size ≤ 9223372036854775807 then (some (t173 ++ t174)) else (none))))
set_option maxHeartbeats 8000000 in
set_option maxRecDepth 100000 in
theorem impl_units.calls (a0 : Int) (a1 : Int) (r : ByteArray) (w : World) (h : impl_units.f a0 a1 = some r) :
    Calls Try.prog 43 #[.int .i64 a0, .int .i64 a1] w fun e w' => e = .returned (.string r) ∧ Below w.heap.size w w' := by
  have HB := Aside0.mk (Below.refl w.heap.size w)
  have H : (if a1 < 65536 then ((impl_unit.f a0 a1).bind fun t172 => (some t172)) else ((impl_unit.f a0 (wrap64 (55296 + ((wrap64 (a1 - 65536)) / 1024)))).bind fun t173 => ((impl_unit.f a0 (wrap64 (56320 + (Go.bits .and .i64 (wrap64 (a1 - 65536)) 1023)))).bind fun t174 => (if t173.size + t174.size ≤ 9223372036854775807 then (some (t173 ++ t174)) else (none))))) = some r := h
  clear h
  by_cases c3 : a1 < 65536
  · rw [if_pos c3] at H
    have c3b0 : decide (a1 < 65536) = true := decide_eq_true c3
    clear c3
    replace H := Option.bind_eq_some_iff.mp H
    obtain ⟨t172, A40, H⟩ := H
    replace H : (some t172) = some r := H
    have A4 := Aside0.mk A40
    clear A40
    obtain rfl := Option.some.inj H
    go_enter Try.func43, Try.ntmps43
    go_wp2_with (first | ((with_reducible refine gate_callee (f := 50) rfl ?_); refine goesL_ (some 9) rfl rfl Try.func50 (by kernel_rfl) rfl #[.int .i64 a0, .int .i64 a1] rfl (by (try simp only [List.map_toArray, List.map_cons, List.map_nil]); first | done | rfl | (simp only [List.length_drop, List.length_take]; rfl)) ?_; (with_reducible refine (impl_unit.calls a0 a1 t172 _ A4.out).mono ?_); rintro e w5 ⟨rfl, hb⟩; refine ⟨_, rfl, ?_⟩; have n0_ := Aside0.mk (below_step (by repeat (first | (with_reducible first | exact HB.out | apply below_alloc | apply pw_below_drewN | apply below_drew1) | exact HB.out | exact Below.refl _ _)) hb); clear HB; have HB := n0_; clear n0_; (try clear hb); (try clear hb2); (try clear hk); (try clear hi)))
    go_ret
    exact ⟨by first | rfl | (simp [errW_none, errW_some] <;> rfl) | (simp [*, errW_none, errW_some] <;> rfl), by repeat (first | (with_reducible first | exact HB.out | apply below_alloc | apply pw_below_drewN | apply below_drew1) | exact HB.out | exact Below.refl _ _)⟩
  · rw [if_neg c3] at H
    have c3b0 : decide (a1 < 65536) = false := decide_eq_false c3
    clear c3
    replace H := Option.bind_eq_some_iff.mp H
    obtain ⟨t173, A60, H⟩ := H
    replace H : ((impl_unit.f a0 (wrap64 (56320 + (Go.bits .and .i64 (wrap64 (a1 - 65536)) 1023)))).bind fun t174 => (if t173.size + t174.size ≤ 9223372036854775807 then (some (t173 ++ t174)) else (none))) = some r := H
    have A6 := Aside0.mk A60
    clear A60
    replace H := Option.bind_eq_some_iff.mp H
    obtain ⟨t174, A70, H⟩ := H
    replace H : (if t173.size + t174.size ≤ 9223372036854775807 then (some (t173 ++ t174)) else (none)) = some r := H
    have A7 := Aside0.mk A70
    clear A70
    by_cases c8 : t173.size + t174.size ≤ 9223372036854775807
    · rw [if_pos c8] at H
      have c8b0 := eq_true c8
      have c8b1 : decide (t173.size + t174.size ≤ 9223372036854775807) = true := decide_eq_true c8
      try have c8b2 : (9223372036854775807 < t173.size + t174.size) = False := eq_false (Nat.not_lt.2 c8)
      obtain rfl := Option.some.inj H
      go_enter Try.func43, Try.ntmps43
      go_wp2_with (first | ((with_reducible refine gate_callee (f := 50) rfl ?_); refine goesL_ (some 16) rfl rfl Try.func50 (by kernel_rfl) rfl #[.int .i64 a0, .int .i64 (wrap64 (55296 + ((wrap64 (a1 - 65536)) / 1024)))] rfl (by (try simp only [List.map_toArray, List.map_cons, List.map_nil]); first | done | rfl | (simp only [List.length_drop, List.length_take]; rfl)) ?_; (with_reducible refine (impl_unit.calls a0 (wrap64 (55296 + ((wrap64 (a1 - 65536)) / 1024))) t173 _ A6.out).mono ?_); rintro e w9 ⟨rfl, hb⟩; refine ⟨_, rfl, ?_⟩; have n0_ := Aside0.mk (below_step (by repeat (first | (with_reducible first | exact HB.out | apply below_alloc | apply pw_below_drewN | apply below_drew1) | exact HB.out | exact Below.refl _ _)) hb); clear HB; have HB := n0_; clear n0_; (try clear hb); (try clear hb2); (try clear hk); (try clear hi)) | ((with_reducible refine gate_callee (f := 50) rfl ?_); refine goesL_ (some 21) rfl rfl Try.func50 (by kernel_rfl) rfl #[.int .i64 a0, .int .i64 (wrap64 (56320 + (Go.bits .and .i64 (wrap64 (a1 - 65536)) 1023)))] rfl (by (try simp only [List.map_toArray, List.map_cons, List.map_nil]); first | done | rfl | (simp only [List.length_drop, List.length_take]; rfl)) ?_; (with_reducible refine (impl_unit.calls a0 (wrap64 (56320 + (Go.bits .and .i64 (wrap64 (a1 - 65536)) 1023))) t174 _ A7.out).mono ?_); rintro e w10 ⟨rfl, hb⟩; refine ⟨_, rfl, ?_⟩; have n0_ := Aside0.mk (below_step (by repeat (first | (with_reducible first | exact HB.out | apply below_alloc | apply pw_below_drewN | apply below_drew1) | exact HB.out | exact Below.refl _ _)) hb); clear HB; have HB := n0_; clear n0_; (try clear hb); (try clear hb2); (try clear hk); (try clear hi)))
      go_ret
      exact ⟨by first | rfl | (simp [errW_none, errW_some] <;> rfl) | (simp [*, errW_none, errW_some] <;> rfl), by repeat (first | (with_reducible first | exact HB.out | apply below_alloc | apply pw_below_drewN | apply below_drew1) | exact HB.out | exact Below.refl _ _)⟩
    · rw [if_neg c8] at H
      exact absurd H (by simp)

/-! ### impl_encode: function 27 -/
def numsOf (s : ByteArray) : List Int := s.data.toList.map fun b => (b.toNat : Int)
theorem numsOf_cells (s : ByteArray) : Lib.strCells s = cellsN (numsOf s) := by
  unfold Lib.strCells cellsN numsOf
  rw [List.map_map]
  rfl
theorem numsOf_rng (s : ByteArray) : ∀ x ∈ numsOf s, 0 ≤ x ∧ x < 256 := by
  intro x hx
  unfold numsOf at hx
  obtain ⟨b, _, rfl⟩ := List.mem_map.1 hx
  have := b.toNat_lt
  omega
theorem numsOf_len (s : ByteArray) : (numsOf s).length = s.size := by unfold numsOf; rw [List.length_map, Array.length_toList]; rfl
/-- A rune's bytes in a code. -/
def pieceT (s : ByteArray) : Option (List Int) := if 0 < s.size ∧ s.size ≤ 8 then some (numsOf s) else none
def pieceO (en r : Int) : Option (List Int) := if en = 1 then (impl_utf8Of.f r).bind pieceT else if en = 4 then (if 0 ≤ r ∧ r ≤ 255 then some [r] else none) else (impl_units.f en r).bind pieceT
def encO (en : Int) : List Int → Option (List Int)
  | [] => some []
  | r :: t => (pieceO en r).bind fun p => (encO en t).bind fun q => some (p ++ q)
theorem pieceT_some {s : ByteArray} {p : List Int} (h : pieceT s = some p) : p = numsOf s ∧ 0 < s.size ∧ s.size ≤ 8 := by
  unfold pieceT at h
  split at h
  · rename_i e; exact ⟨(Option.some.inj h).symm, e.1, e.2⟩
  · cases h
theorem pieceO_rng {en r : Int} {p : List Int} (h : pieceO en r = some p) : ∀ x ∈ p, 0 ≤ x ∧ x < 256 := by
  unfold pieceO at h
  split at h
  · obtain ⟨s, _, h⟩ := Option.bind_eq_some_iff.1 h
    rw [(pieceT_some h).1]; exact numsOf_rng s
  · split at h
    · split at h
      · obtain rfl := Option.some.inj h
        intro x hx
        rw [List.mem_singleton] at hx
        omega
      · cases h
    · obtain ⟨s, _, h⟩ := Option.bind_eq_some_iff.1 h
      rw [(pieceT_some h).1]; exact numsOf_rng s
theorem encO_rng {en : Int} : ∀ {l : List Int} {q : List Int}, encO en l = some q → ∀ x ∈ q, 0 ≤ x ∧ x < 256
  | [], q, h => by obtain rfl := Option.some.inj h; simp
  | r :: t, q, h => by
    obtain ⟨p, hp, h⟩ := Option.bind_eq_some_iff.1 (show (pieceO en r).bind (fun p => (encO en t).bind fun q => some (p ++ q)) = some q from h)
    obtain ⟨q2, hq, h⟩ := Option.bind_eq_some_iff.1 h
    obtain rfl := Option.some.inj h
    intro x hx
    rcases List.mem_append.1 hx with g | g
    · exact pieceO_rng hp x g
    · exact encO_rng hq x g
def impl_encode.f (en : Int) (l : List Int) : Option ByteArray := if en = 5 then impl_shifting.f l else if l.length ≤ 100000 then (encO en l).bind fun n => some (strOfNums n) else none
theorem bHeap {B b : Nat} {bs : List Value} {w w' : World} (h : Lib.IsBuilder 52 5 B b bs w) (e : w'.heap = w.heap) : Lib.IsBuilder 52 5 B b bs w' := by
  have go : ∀ p, Lib.BuilderAt 52 5 B b p bs w → Lib.BuilderAt 52 5 B b p bs w' := fun p hp => by
    obtain ⟨hB, v, hb, hown, hne⟩ := hp
    refine ⟨hB, v, by rw [e]; exact hb, ⟨hown.1, ?_⟩, hne⟩
    rcases hown.2 with x | ⟨g, cap, cur, h1, h2, h3, h4⟩
    · exact .inl x
    · exact .inr ⟨g, cap, cur, h1, h2, by rw [e]; exact h3, h4⟩
  exact h.elim (fun x => .inl (go _ x)) (fun x => .inr (go _ x))
theorem bBelow {B b : Nat} {bs : List Value} {w w' : World} (h : Lib.IsBuilder 52 5 B b bs w) (hb : Below w.heap.size w w') : Lib.IsBuilder 52 5 B b bs w' := by
  have go : ∀ p, Lib.BuilderAt 52 5 B b p bs w → Lib.BuilderAt 52 5 B b p bs w' := fun p hp => by
    have hlt := hp.lt
    obtain ⟨hB, v, hbk, hown, hne⟩ := hp
    refine ⟨hB, v, (hb.block b hlt).trans hbk, ⟨hown.1, ?_⟩, hne⟩
    rcases hown.2 with x | ⟨g, cap, cur, h1, h2, h3, h4⟩
    · exact .inl x
    · exact .inr ⟨g, cap, cur, h1, h2, (hb.block g (Array.getElem?_eq_some_iff.1 h3).1).trans h3, h4⟩
  exact h.elim (fun x => .inl (go _ x)) (fun x => .inr (go _ x))
set_option maxHeartbeats 8000000 in
set_option maxRecDepth 100000 in
theorem impl_encode.calls (a0 : Int) (A1 : Option Addr) (c1 : Nat) (l1 : List Int) (r : ByteArray) (w : World) (hr1 : Kd.C (Kd.int .i64) w A1 l1.length l1) (hc1 : l1.length ≤ c1) (h : impl_encode.f a0 l1 = some r) :
    Calls Try.prog 27 #[.int .i64 a0, .slice A1 l1.length c1] w fun e w' => e = .returned (.string r) ∧ Below w.heap.size w w' := by
  unfold impl_encode.f at h
  have hu52 := Try.underlying52
  by_cases e5 : a0 = 5
  · rw [if_pos e5] at h
    have HS := Aside0.mk (impl_shifting.calls A1 c1 l1 r w hr1 hc1 h)
    have k5 : (a0 == 5) = true := by simpa using e5
    clear h hr1 e5
    go_enter Try.func27, Try.ntmps27
    go_wp2_with (go_at_call 39; (with_reducible refine HS.out.mono ?_); rintro e w1 ⟨rfl, hb⟩; have HB := Aside0.mk hb; clear hb)
    go_ret
    exact ⟨rfl, HB.out⟩
  · rw [if_neg e5] at h
    split at h
    case isFalse => cases h
    rename_i hl
    obtain ⟨total, ht, h⟩ := Option.bind_eq_some_iff.1 h
    obtain rfl := Option.some.inj h
    clear h
    have k5 : (a0 == 5) = false := by simpa using e5
    have HR := Aside0.mk hr1
    have HT := Aside0.mk ht
    clear hr1 ht e5
    go_enter Try.func27, Try.ntmps27
    go_wp2
    go_loopw [14] (fun v W => ∃ (j : Nat) (nums q : List Int), j ≤ l1.length ∧ v = .int .i64 (j : Int) ∧ Aside0 (encO a0 (l1.drop j) = some q ∧ nums ++ q = total) ∧ Aside0 (Lib.IsBuilder 52 5 w.heap.size w.heap.size (cellsN nums) W) ∧ Aside0 (nums.length ≤ 8 * j) ∧ Aside0 (Below w.heap.size w W) ∧ Aside0 (nums = [] → ∃ p, W.heap[w.heap.size]? = some (.cells #[p, .slice none 0 0] 52 (0, 0)))) (fun v W => l1.length - (intOf v).toNat)
    case atStart =>
      have hb := blk_new w (.cells #[.pointer none, .slice none 0 0] 52)
      exact ⟨0, [], total, Nat.zero_le _, rfl, ⟨HT.out, rfl⟩, ⟨.inl ⟨Nat.le_refl _, _, hb, ⟨rfl, .inl ⟨rfl, rfl⟩⟩, by simp [Value.ownBlock]⟩⟩, ⟨Nat.zero_le _⟩, ⟨below_alloc (Below.refl _ _) _⟩, ⟨fun _ => ⟨_, hb⟩⟩⟩
    case round =>
      obtain ⟨j, nums, q, hj, rfl, HE, HI, HL, HB, HN⟩ := hrel
      have hBs := HB.out.size
      by_cases hlt : j < l1.length
      · obtain ⟨ad, ea, hx⟩ := Kd.at_int (Kd.C_below HR.out HB.out) (j : Int) (by omega) (by omega)
        subst ea
        have hrj : rd l1 (j : Int) = l1[j] := by unfold rd; simp [List.getD_eq_getElem?_getD, hlt]
        have hdr : l1.drop j = l1[j] :: l1.drop (j + 1) := List.drop_eq_getElem_cons hlt
        rw [hrj, Int.toNat_natCast] at hx
        obtain ⟨hE1, hE2⟩ := HE.out
        rw [hdr] at hE1
        obtain ⟨p, hp, hE1⟩ := Option.bind_eq_some_iff.1 (show (pieceO a0 l1[j]).bind (fun p => (encO a0 (l1.drop (j + 1))).bind fun q => some (p ++ q)) = some q from hE1)
        obtain ⟨q2, hq2, hE1⟩ := Option.bind_eq_some_iff.1 hE1
        obtain rfl := Option.some.inj hE1
        have HE2 := Aside0.mk (show encO a0 (l1.drop (j + 1)) = some q2 ∧ (nums ++ p) ++ q2 = total from ⟨hq2, by rw [List.append_assoc]; exact hE2⟩)
        generalize l1[j] = r at *
        have k0 : decide (j < l1.length) = true := decide_eq_true hlt
        have hnl := HL.out
        unfold pieceO at hp
        clear hdr hE1 hE2 hq2 hrj HE
        by_cases e1 : a0 = 1
        · rw [if_pos e1] at hp
          have k1 : (a0 == 1) = true := by simpa using e1
          obtain ⟨s, hs, hp⟩ := Option.bind_eq_some_iff.1 hp
          obtain ⟨rfl, s1, s2⟩ := pieceT_some hp
          have HU := Aside0.mk (fun (W : World) => impl_utf8Of.calls r s W hs)
          have HLN := Aside0.mk (show (nums ++ numsOf s).length ≤ 8 * (j + 1) by rw [List.length_append, numsOf_len]; omega)
          have HNE := Aside0.mk (show ¬ nums ++ numsOf s = [] from fun e => by have e2 := congrArg List.length e; rw [List.length_append, numsOf_len, List.length_nil] at e2; omega)
          have hcl : (cellsN nums).length + s.size ≤ 140737488355328 := by rw [cellsN_len]; omega
          clear hp hs e1
          go_wp2_with (first | (go_at_call 41; (with_reducible refine (HU.out _).mono ?_); rintro e w1 ⟨rfl, ⟨nd, rfl⟩⟩; have hbd := pw_below_drewN (Below.refl wr.heap.size wr) nd; have HW := Aside0.mk (bWriteString w.heap.size w.heap.size (cellsN nums) s (wr.drewN nd) (bBelow HI.out hbd) hcl (Nat.le_trans hBs hbd.size)); have HB1 := Aside0.mk (HB.out.trans (hbd.mono hBs)); clear hbd) | (go_at_call 40; (with_reducible refine HW.out.mono ?_); rintro e w2 ⟨rfl, hBA, hb2⟩; have HI2 : Aside0 (Lib.IsBuilder 52 5 w.heap.size w.heap.size (cellsN (nums ++ numsOf s)) w2) := ⟨.inr (by rw [numsOf_cells] at hBA; unfold cellsN at hBA ⊢; rw [List.map_append]; exact hBA)⟩; have HB2 := Aside0.mk (HB1.out.trans hb2); clear hBA hb2))
          go_roundw
          case rel => exact ⟨j + 1, _, q2, by omega, by go_num, HE2, HI2, HLN, HB2, ⟨fun e => absurd e HNE.out⟩⟩
          case measure => simp [intOf] <;> omega
        · rw [if_neg e1] at hp
          have k1 : (a0 == 1) = false := by simpa using e1
          by_cases e4 : a0 = 4
          · rw [if_pos e4] at hp
            have k4 : (a0 == 4) = true := by simpa using e4
            split at hp
            case isFalse => cases hp
            rename_i hrr
            obtain ⟨r0, r1⟩ := hrr
            obtain rfl := Option.some.inj hp
            have HLN := Aside0.mk (show (nums ++ [r]).length ≤ 8 * (j + 1) by rw [List.length_append]; simp; omega)
            have HW := Aside0.mk (bWriteByte w.heap.size w.heap.size (cellsN nums) r wr HI.out (by rw [cellsN_len]; omega) hBs)
            clear hp e1 e4
            go_wp2_with (go_at_call 42; (with_reducible refine HW.out.mono ?_); rintro e w1 ⟨rfl, hBA, hb1, hk1⟩; have HI2 : Aside0 (Lib.IsBuilder 52 5 w.heap.size w.heap.size (cellsN (nums ++ [r])) w1) := ⟨.inr (by rw [cellsN_snoc]; exact hBA)⟩; have HB2 := Aside0.mk (HB.out.trans hb1); clear hBA hb1 hk1)
            go_roundw
            case rel => exact ⟨j + 1, _, q2, by omega, by go_num, HE2, HI2, HLN, HB2, ⟨fun e => absurd e (by simp)⟩⟩
            case measure => simp [intOf] <;> omega
          · rw [if_neg e4] at hp
            have k4 : (a0 == 4) = false := by simpa using e4
            obtain ⟨s, hs, hp⟩ := Option.bind_eq_some_iff.1 hp
            obtain ⟨rfl, s1, s2⟩ := pieceT_some hp
            have HU := Aside0.mk (fun (W : World) => impl_units.calls a0 r s W hs)
            have HLN := Aside0.mk (show (nums ++ numsOf s).length ≤ 8 * (j + 1) by rw [List.length_append, numsOf_len]; omega)
            have HNE := Aside0.mk (show ¬ nums ++ numsOf s = [] from fun e => by have e2 := congrArg List.length e; rw [List.length_append, numsOf_len, List.length_nil] at e2; omega)
            have hcl : (cellsN nums).length + s.size ≤ 140737488355328 := by rw [cellsN_len]; omega
            clear hp hs e1 e4
            go_wp2_with (first | (go_at_call 43; (with_reducible refine (HU.out _).mono ?_); rintro e w1 ⟨rfl, hbd⟩; have HW := Aside0.mk (bWriteString w.heap.size w.heap.size (cellsN nums) s w1 (bBelow HI.out hbd) hcl (Nat.le_trans hBs hbd.size)); have HB1 := Aside0.mk (HB.out.trans (hbd.mono hBs)); clear hbd) | (go_at_call 40; (with_reducible refine HW.out.mono ?_); rintro e w2 ⟨rfl, hBA, hb2⟩; have HI2 : Aside0 (Lib.IsBuilder 52 5 w.heap.size w.heap.size (cellsN (nums ++ numsOf s)) w2) := ⟨.inr (by rw [numsOf_cells] at hBA; unfold cellsN at hBA ⊢; rw [List.map_append]; exact hBA)⟩; have HB2 := Aside0.mk (HB1.out.trans hb2); clear hBA hb2))
            go_roundw
            case rel => exact ⟨j + 1, _, q2, by omega, by go_num, HE2, HI2, HLN, HB2, ⟨fun e => absurd e HNE.out⟩⟩
            case measure => simp [intOf] <;> omega
      · obtain rfl : j = l1.length := by omega
        have q1 : decide (l1.length < l1.length) = false := decide_eq_false (by omega)
        obtain ⟨hE1, hE2⟩ := HE.out
        rw [List.drop_length] at hE1
        obtain rfl := Option.some.inj hE1
        rw [List.append_nil] at hE2
        subst hE2
        have HS := Aside0.mk (bText w.heap.size w.heap.size nums wr HI.out (encO_rng HT.out) HN.out)
        clear hE1
        go_wp2_with (go_at_call 44; (with_reducible refine HS.out.mono ?_); rintro e w2 ⟨rfl, hb2⟩; have HB2 := Aside0.mk (HB.out.trans hb2); clear hb2)
        go_ret
        exact ⟨rfl, HB2.out⟩

/-! ### impl_EncodeAll: function 15 -/
mutual
def impl_EncodeAll.j0 : Nat → Int → List Int → Bool → Option (ByteArray × Int × Bool)
  | 0, _, _, _ => none
  | k + 1, x0, x1, x17 => if x17 = true then (some ((⟨#[]⟩ : ByteArray), 0, false)) else (impl_EncodeAll.l0 k x0 x1 x1 (x1.length : Int) 0)
def impl_EncodeAll.l0 : Nat → Int → List Int → List Int → Int → Int → Option (ByteArray × Int × Bool)
  | 0, _, _, _, _, _ => none
  | k + 1, x0, x1, x18, x19, x20 => if x20 < x19 then (if 0 ≤ x20 then (if x20 < (x18.length : Int) then ((impl_canWrite.f x0 (rd x18 x20)).bind fun t178 => (if t178 = true then (impl_EncodeAll.l0 k x0 x1 x18 x19 (wrap64 (x20 + 1))) else (some ((⟨#[]⟩ : ByteArray), x20, true)))) else (none)) else (none)) else ((impl_encode.f x0 x1).bind fun t179 => (if (t179.size : Int) > 1000 then (some ((⟨#[]⟩ : ByteArray), 0, false)) else (some (t179, (-1), true))))
end
def impl_EncodeAll.f (k : Nat) (a0 : Int) (l1 : List Int) : Option (ByteArray × Int × Bool) := (impl_isCode.f a0).bind fun t175 => (if t175 = true then ((impl_areRunes.f l1 1000).bind fun t176 => (impl_EncodeAll.j0 k a0 l1 (!t176))) else (impl_EncodeAll.j0 k a0 l1 true))
theorem impl_EncodeAll.mono_l : ∀ k, (∀ y0 y1 y2, LeO (impl_EncodeAll.j0 k y0 y1 y2) (impl_EncodeAll.j0 (k + 1) y0 y1 y2)) ∧ (∀ y0 y1 y2 y3 y4, LeO (impl_EncodeAll.l0 k y0 y1 y2 y3 y4) (impl_EncodeAll.l0 (k + 1) y0 y1 y2 y3 y4))
  | 0 => ⟨fun _ _ _ r h => by simp [impl_EncodeAll.j0] at h, fun _ _ _ _ _ r h => by simp [impl_EncodeAll.l0] at h⟩
  | k + 1 => by
    obtain ⟨ih0, ih1⟩ := impl_EncodeAll.mono_l k
    refine ⟨?_, ?_⟩
    · intro y0 y1 y2
      unfold impl_EncodeAll.j0
      repeat' first
      | (with_reducible exact ih0 _ _ _)
      | (with_reducible exact ih1 _ _ _ _ _)
      | (with_reducible exact LeO.refl _)
      | (with_reducible exact LeO.none _)
      | (with_reducible refine LeO.ite ?_ ?_)
      | (with_reducible refine LeO.bind ?_ (fun _ => ?_))
      | exact ih0 _ _ _
      | exact ih1 _ _ _ _ _
      | exact LeO.none _
      | refine LeO.ite ?_ ?_
      | refine LeO.bind ?_ (fun _ => ?_)
    · intro y0 y1 y2 y3 y4
      unfold impl_EncodeAll.l0
      repeat' first
      | (with_reducible exact ih0 _ _ _)
      | (with_reducible exact ih1 _ _ _ _ _)
      | (with_reducible exact LeO.refl _)
      | (with_reducible exact LeO.none _)
      | (with_reducible refine LeO.ite ?_ ?_)
      | (with_reducible refine LeO.bind ?_ (fun _ => ?_))
      | exact ih0 _ _ _
      | exact ih1 _ _ _ _ _
      | exact LeO.none _
      | refine LeO.ite ?_ ?_
      | refine LeO.bind ?_ (fun _ => ?_)
theorem impl_EncodeAll.mono : ∀ a0 a1 k, LeO (impl_EncodeAll.f k a0 a1) (impl_EncodeAll.f (k + 1) a0 a1) := by
  intro a0 a1 k
  obtain ⟨ih0, ih1⟩ := impl_EncodeAll.mono_l k
  unfold impl_EncodeAll.f
  repeat' first
      | (with_reducible exact ih0 _ _ _)
      | (with_reducible exact ih1 _ _ _ _ _)
      | (with_reducible exact LeO.refl _)
      | (with_reducible exact LeO.none _)
      | (with_reducible refine LeO.ite ?_ ?_)
      | (with_reducible refine LeO.bind ?_ (fun _ => ?_))
      | exact ih0 _ _ _
      | exact ih1 _ _ _ _ _
      | exact LeO.none _
      | refine LeO.ite ?_ ?_
      | refine LeO.bind ?_ (fun _ => ?_)
set_option maxHeartbeats 8000000 in
set_option maxRecDepth 100000 in
theorem impl_EncodeAll.calls (k : Nat) (a0 : Int) (A1 : Option Addr) (c1 : Nat) (l1 : List Int) (r1 : ByteArray) (r2 : Int) (r3 : Bool) (w : World) (hr1 : Kd.C (Kd.int .i64) w A1 l1.length l1) (hc1 : l1.length ≤ c1) (h : impl_EncodeAll.f k a0 l1 = some (r1, r2, r3)) :
    Calls Try.prog 15 #[.int .i64 a0, .slice A1 l1.length c1] w fun e w' => e = .returned (.tuple #[.string r1, .int .i64 r2, .bool r3]) ∧ Below w.heap.size w w' := by
  have HR1 := Aside0.mk hr1
  have HC1 := Aside0.mk hc1
  clear hr1 hc1
  have HB := Aside0.mk (Below.refl w.heap.size w)
  have H : ((impl_isCode.f a0).bind fun t175 => (if t175 = true then ((impl_areRunes.f l1 1000).bind fun t176 => (impl_EncodeAll.j0 k a0 l1 (!t176))) else (impl_EncodeAll.j0 k a0 l1 true))) = some (r1, r2, r3) := h
  clear h
  have HC3 := Aside0.mk H
  clear H
  go_enter Try.func15, Try.ntmps15
  go_upto_region 1 with (fail)
  go_cut [17] (fun v17 wc => ∃ (kq : Nat) (x17_2 : Bool), v17 = .bool x17_2 ∧ Aside0 (impl_EncodeAll.j0 kq a0 l1 x17_2 = some (r1, r2, r3)) ∧ Aside0 (kq ≤ k) ∧ Aside0 (Below w.heap.size w wc))
  case first =>
    have H := HC3.out
    clear HC3
    replace H := Option.bind_eq_some_iff.mp H
    obtain ⟨t175, A40, H⟩ := H
    replace H : (if t175 = true then ((impl_areRunes.f l1 1000).bind fun t176 => (impl_EncodeAll.j0 k a0 l1 (!t176))) else (impl_EncodeAll.j0 k a0 l1 true)) = some (r1, r2, r3) := H
    have A4 := Aside0.mk A40
    clear A40
    by_cases c5 : t175 = true
    · subst c5
      have H1 : ((impl_areRunes.f l1 1000).bind fun t176 => (impl_EncodeAll.j0 k a0 l1 (!t176))) = some (r1, r2, r3) := by rw [if_pos rfl] at H; exact H
      clear H
      have H := H1
      clear H1
      replace H := Option.bind_eq_some_iff.mp H
      obtain ⟨t176, A60, H⟩ := H
      replace H : (impl_EncodeAll.j0 k a0 l1 (!t176)) = some (r1, r2, r3) := H
      have A6 := Aside0.mk A60
      clear A60
      have H' := Aside0.mk H
      clear H
      go_wp2_with (first | ((with_reducible refine gate_callee (f := 25) rfl ?_); refine goesL_ (some 11) rfl rfl Try.func25 (by kernel_rfl) rfl #[.int .i64 a0] rfl (by (try simp only [List.map_toArray, List.map_cons, List.map_nil]); first | done | rfl | (simp only [List.length_drop, List.length_take]; rfl)) ?_; (with_reducible refine (impl_isCode.calls a0 true _ A4.out).mono ?_); rintro e w' ⟨rfl, ⟨nd, rfl⟩⟩; refine ⟨_, rfl, ?_⟩) | (go_at_call 21; (with_reducible refine (impl_areRunes.calls _ _ l1 1000 t176 _ ?side1 ?side2 A6.out).mono ?_); (case side1 => repeat (first | exact (Kd.C_below HR1.out (by repeat (first | (with_reducible first | exact HB.out | apply below_alloc | apply pw_below_drewN | apply below_drew1) | exact HB.out | exact Below.refl _ _))) | (with_reducible refine Kd.C_alloc ?_ _) | (with_reducible refine Kd.C_drewN ?_ _) | (with_reducible refine Kd.C_drew ?_))); (case side2 => exact HC1.out); rintro e w7 ⟨rfl, hb⟩; have n0_ := Aside0.mk (below_step (by repeat (first | (with_reducible first | exact HB.out | apply below_alloc | apply pw_below_drewN | apply below_drew1) | exact HB.out | exact Below.refl _ _)) hb); clear HB; have HB := n0_; clear n0_; (try clear hb); (try clear hb2); (try clear hk); (try clear hi)))
      go_meet
      case rel => exact ⟨_, (!t176), (by first | rfl | (simp; done) | (simp [*]; done)), H', ⟨by first | omega | exact Nat.le_refl _⟩, ⟨by repeat (first | (with_reducible first | exact HB.out | apply below_alloc | apply pw_below_drewN | apply below_drew1) | exact HB.out | exact Below.refl _ _)⟩⟩
    · replace c5 := Bool.eq_false_iff.mpr c5
      subst c5
      have H1 : (impl_EncodeAll.j0 k a0 l1 true) = some (r1, r2, r3) := by rw [if_neg (show ¬ (false = true) by decide)] at H; exact H
      clear H
      have H := H1
      clear H1
      have H' := Aside0.mk H
      clear H
      go_wp2_with (first | ((with_reducible refine gate_callee (f := 25) rfl ?_); refine goesL_ (some 11) rfl rfl Try.func25 (by kernel_rfl) rfl #[.int .i64 a0] rfl (by (try simp only [List.map_toArray, List.map_cons, List.map_nil]); first | done | rfl | (simp only [List.length_drop, List.length_take]; rfl)) ?_; (with_reducible refine (impl_isCode.calls a0 false _ A4.out).mono ?_); rintro e w' ⟨rfl, ⟨nd, rfl⟩⟩; refine ⟨_, rfl, ?_⟩))
      go_meet
      case rel => exact ⟨_, (true), (by first | rfl | (simp; done) | (simp [*]; done)), H', ⟨by first | omega | exact Nat.le_refl _⟩, ⟨by repeat (first | (with_reducible first | exact HB.out | apply below_alloc | apply pw_below_drewN | apply below_drew1) | exact HB.out | exact Below.refl _ _)⟩⟩
  case rest =>
    clear HC3
    try clear c1
    try clear c2
    try clear p2
    try clear c5
    obtain ⟨kq, x17_2, rfl, HA, HJ2, HB⟩ := hcut
    cases kq with
    | zero => exact absurd HA.out (by simp [impl_EncodeAll.j0])
    | succ kj2 =>
      have H := HA.out
      clear HA
      simp only [impl_EncodeAll.j0] at H
      by_cases c8 : x17_2 = true
      · subst c8
        have H1 : (some ((⟨#[]⟩ : ByteArray), 0, false)) = some (r1, r2, r3) := by rw [if_pos rfl] at H; exact H
        clear H
        have H := H1
        clear H1
        simp only [Option.some.injEq, Prod.mk.injEq] at H
        obtain ⟨rfl, rfl, rfl⟩ := H
        go_wp2
        go_ret3
        exact ⟨by first | rfl | (simp [errW_none, errW_some] <;> rfl) | (simp [*, errW_none, errW_some] <;> rfl), by repeat (first | (with_reducible first | exact HB.out | apply below_alloc | apply pw_below_drewN | apply below_drew1) | exact HB.out | exact Below.refl _ _)⟩
      · replace c8 := Bool.eq_false_iff.mpr c8
        subst c8
        have H1 : (impl_EncodeAll.l0 kj2 a0 l1 l1 (l1.length : Int) 0) = some (r1, r2, r3) := by rw [if_neg (show ¬ (false = true) by decide)] at H; exact H
        clear H
        have H := H1
        clear H1
        have H' := Aside0.mk H
        clear H
        go_wp2
        go_loopg [20] kj2 (fun kq v20 w' => ∃ (x20_2 : Int), v20 = .int .i64 x20_2 ∧ Aside0 (impl_EncodeAll.l0 kq a0 l1 l1 (l1.length : Int) x20_2 = some (r1, r2, r3)) ∧ Aside0 (kq ≤ kj2) ∧ Aside0 (Below w.heap.size w w'))
        case atStart => exact ⟨(0), (by first | rfl | (simp; done) | (simp [*]; done)), H', ⟨Nat.le_refl _⟩, ⟨by repeat (first | (with_reducible first | exact HB.out | apply below_alloc | apply pw_below_drewN | apply below_drew1) | exact HB.out | exact Below.refl _ _)⟩⟩
        case round =>
          clear H'
          try clear c1
          try clear c2
          try clear p2
          try clear c5
          try clear c8
          try clear p2
          obtain ⟨x20_2, rfl, HA, HK2, HB⟩ := hrel
          cases gk with
          | zero => exact absurd HA.out (by simp [impl_EncodeAll.l0])
          | succ k2 =>
            have H := HA.out
            clear HA
            simp only [impl_EncodeAll.l0] at H
            by_cases c9 : x20_2 < (l1.length : Int)
            · rw [if_pos c9] at H
              have c9b0 : decide (x20_2 < (l1.length : Int)) = true := decide_eq_true c9
              clear c9
              by_cases c10 : 0 ≤ x20_2
              · rw [if_pos c10] at H
                have c10b0 : decide (0 ≤ x20_2) = true := decide_eq_true c10
                clear c10
                by_cases c11 : x20_2 < (l1.length : Int)
                · rw [if_pos c11] at H
                  have c11b0 : decide (x20_2 < (l1.length : Int)) = true := decide_eq_true c11
                  clear c11
                  replace H := Option.bind_eq_some_iff.mp H
                  obtain ⟨t178, A120, H⟩ := H
                  replace H : (if t178 = true then (impl_EncodeAll.l0 k2 a0 l1 l1 (l1.length : Int) (wrap64 (x20_2 + 1))) else (some ((⟨#[]⟩ : ByteArray), x20_2, true))) = some (r1, r2, r3) := H
                  have A12 := Aside0.mk A120
                  clear A120
                  by_cases c13 : t178 = true
                  · subst c13
                    have H1 : (impl_EncodeAll.l0 k2 a0 l1 l1 (l1.length : Int) (wrap64 (x20_2 + 1))) = some (r1, r2, r3) := by rw [if_pos rfl] at H; exact H
                    clear H
                    have H := H1
                    clear H1
                    have H' := Aside0.mk H
                    clear H
                    have p177 : 0 ≤ (x20_2 : Int) := of_decide_eq_true (by first | (with_reducible assumption) | assumption)
                    have q177 : x20_2 < (l1.length : Int) := of_decide_eq_true (by first | (with_reducible assumption) | assumption)
                    obtain ⟨ad177, e177, hx177_0⟩ := Kd.at_int HR1.out x20_2 p177 q177
                    cases e177
                    replace hx177_0 := (HB.out.cell (World.block_lt_of_cell? w _ hx177_0)).trans hx177_0
                    replace p177 := eq_true p177
                    replace q177 := eq_true q177
                    go_wp2_with (first | ((with_reducible refine gate_callee (f := 26) rfl ?_); refine goesL_ (some 27) rfl rfl Try.func26 (by kernel_rfl) rfl #[.int .i64 a0, .int .i64 (rd l1 x20_2)] rfl (by (try simp only [List.map_toArray, List.map_cons, List.map_nil]); first | done | rfl | (simp only [List.length_drop, List.length_take]; rfl)) ?_; (with_reducible refine (impl_canWrite.calls a0 (rd l1 x20_2) true _ A12.out).mono ?_); rintro e w' ⟨rfl, ⟨nd, rfl⟩⟩; refine ⟨_, rfl, ?_⟩))
                    go_roundg k2
                    case measure => have := HJ2.out; have := HK2.out; omega
                    case rel => exact ⟨(wrap64 (x20_2 + 1)), (by first | rfl | (simp; done) | (simp [*]; done)), H', ⟨by have := HJ2.out; have := HK2.out; omega⟩, ⟨by repeat (first | (with_reducible first | exact HB.out | apply below_alloc | apply pw_below_drewN | apply below_drew1) | exact HB.out | exact Below.refl _ _)⟩⟩
                  · replace c13 := Bool.eq_false_iff.mpr c13
                    subst c13
                    have H1 : (some ((⟨#[]⟩ : ByteArray), x20_2, true)) = some (r1, r2, r3) := by rw [if_neg (show ¬ (false = true) by decide)] at H; exact H
                    clear H
                    have H := H1
                    clear H1
                    simp only [Option.some.injEq, Prod.mk.injEq] at H
                    obtain ⟨rfl, rfl, rfl⟩ := H
                    have p177 : 0 ≤ (x20_2 : Int) := of_decide_eq_true (by first | (with_reducible assumption) | assumption)
                    have q177 : x20_2 < (l1.length : Int) := of_decide_eq_true (by first | (with_reducible assumption) | assumption)
                    obtain ⟨ad177, e177, hx177_0⟩ := Kd.at_int HR1.out x20_2 p177 q177
                    cases e177
                    replace hx177_0 := (HB.out.cell (World.block_lt_of_cell? w _ hx177_0)).trans hx177_0
                    replace p177 := eq_true p177
                    replace q177 := eq_true q177
                    go_wp2_with (first | ((with_reducible refine gate_callee (f := 26) rfl ?_); refine goesL_ (some 27) rfl rfl Try.func26 (by kernel_rfl) rfl #[.int .i64 a0, .int .i64 (rd l1 x20_2)] rfl (by (try simp only [List.map_toArray, List.map_cons, List.map_nil]); first | done | rfl | (simp only [List.length_drop, List.length_take]; rfl)) ?_; (with_reducible refine (impl_canWrite.calls a0 (rd l1 x20_2) false _ A12.out).mono ?_); rintro e w' ⟨rfl, ⟨nd, rfl⟩⟩; refine ⟨_, rfl, ?_⟩))
                    go_ret3
                    exact ⟨by first | rfl | (simp [errW_none, errW_some] <;> rfl) | (simp [*, errW_none, errW_some] <;> rfl), by repeat (first | (with_reducible first | exact HB.out | apply below_alloc | apply pw_below_drewN | apply below_drew1) | exact HB.out | exact Below.refl _ _)⟩
                · rw [if_neg c11] at H
                  exact absurd H (by simp)
              · rw [if_neg c10] at H
                exact absurd H (by simp)
            · rw [if_neg c9] at H
              have c9b0 : decide (x20_2 < (l1.length : Int)) = false := decide_eq_false c9
              clear c9
              replace H := Option.bind_eq_some_iff.mp H
              obtain ⟨t179, A140, H⟩ := H
              replace H : (if (t179.size : Int) > 1000 then (some ((⟨#[]⟩ : ByteArray), 0, false)) else (some (t179, (-1), true))) = some (r1, r2, r3) := H
              have A14 := Aside0.mk A140
              clear A140
              by_cases c15 : (t179.size : Int) > 1000
              · rw [if_pos c15] at H
                have c15b0 : decide (1000 < (t179.size : Int)) = true := decide_eq_true c15
                have c15b1 : decide (1000 < t179.size) = true := decide_eq_true (by omega)
                clear c15
                simp only [Option.some.injEq, Prod.mk.injEq] at H
                obtain ⟨rfl, rfl, rfl⟩ := H
                go_wp2_with (first | ((with_reducible refine gate_callee (f := 27) rfl ?_); refine goesL_ (some 33) rfl rfl Try.func27 (by kernel_rfl) rfl #[.int .i64 a0, .slice A1 l1.length c1] rfl (by (try simp only [List.map_toArray, List.map_cons, List.map_nil]); first | done | rfl | (simp only [List.length_drop, List.length_take]; rfl)) ?_; (with_reducible refine (impl_encode.calls a0 _ _ l1 t179 _ ?side1 ?side2 A14.out).mono ?_); (case side1 => repeat (first | exact (Kd.C_below HR1.out HB.out) | exact HR1.out | (with_reducible refine Kd.C_alloc ?_ _) | (with_reducible refine Kd.C_drewN ?_ _) | (with_reducible refine Kd.C_drew ?_))); (case side2 => exact HC1.out); rintro e w16 ⟨rfl, hb⟩; refine ⟨_, rfl, ?_⟩; have n0_ := Aside0.mk (below_step (by repeat (first | (with_reducible first | exact HB.out | apply below_alloc | apply pw_below_drewN | apply below_drew1) | exact HB.out | exact Below.refl _ _)) hb); clear HB; have HB := n0_; clear n0_; (try clear hb); (try clear hb2); (try clear hk); (try clear hi)))
                go_ret3
                exact ⟨by first | rfl | (simp [errW_none, errW_some] <;> rfl) | (simp [*, errW_none, errW_some] <;> rfl), by repeat (first | (with_reducible first | exact HB.out | apply below_alloc | apply pw_below_drewN | apply below_drew1) | exact HB.out | exact Below.refl _ _)⟩
              · rw [if_neg c15] at H
                have c15b0 : decide (1000 < (t179.size : Int)) = false := decide_eq_false c15
                have c15b1 : decide (1000 < t179.size) = false := decide_eq_false (by omega)
                clear c15
                simp only [Option.some.injEq, Prod.mk.injEq] at H
                obtain ⟨rfl, rfl, rfl⟩ := H
                go_wp2_with (first | ((with_reducible refine gate_callee (f := 27) rfl ?_); refine goesL_ (some 33) rfl rfl Try.func27 (by kernel_rfl) rfl #[.int .i64 a0, .slice A1 l1.length c1] rfl (by (try simp only [List.map_toArray, List.map_cons, List.map_nil]); first | done | rfl | (simp only [List.length_drop, List.length_take]; rfl)) ?_; (with_reducible refine (impl_encode.calls a0 _ _ l1 t179 _ ?side1 ?side2 A14.out).mono ?_); (case side1 => repeat (first | exact (Kd.C_below HR1.out HB.out) | exact HR1.out | (with_reducible refine Kd.C_alloc ?_ _) | (with_reducible refine Kd.C_drewN ?_ _) | (with_reducible refine Kd.C_drew ?_))); (case side2 => exact HC1.out); rintro e w17 ⟨rfl, hb⟩; refine ⟨_, rfl, ?_⟩; have n0_ := Aside0.mk (below_step (by repeat (first | (with_reducible first | exact HB.out | apply below_alloc | apply pw_below_drewN | apply below_drew1) | exact HB.out | exact Below.refl _ _)) hb); clear HB; have HB := n0_; clear n0_; (try clear hb); (try clear hb2); (try clear hk); (try clear hi)))
                go_ret3
                exact ⟨by first | rfl | (simp [errW_none, errW_some] <;> rfl) | (simp [*, errW_none, errW_some] <;> rfl), by repeat (first | (with_reducible first | exact HB.out | apply below_alloc | apply pw_below_drewN | apply below_drew1) | exact HB.out | exact Below.refl _ _)⟩

end Go.Proofs.Ytbofmfilnjcihaa.HFnExactEncodeAll
