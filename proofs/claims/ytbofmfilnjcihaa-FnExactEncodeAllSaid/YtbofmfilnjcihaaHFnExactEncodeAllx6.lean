/- Written by wip/pr.py of this session, for the law FnExactEncodeAll: Lean functions with the answers of the program's, and the proofs of that; where the kit's print has no word, by hand. -/
import Derived.Test.YtbofmfilnjcihaaHFnExactEncodeAllx0
namespace Go.Proofs.Ytbofmfilnjcihaa.HFnExactEncodeAll
open Go.RowKit Go.Proofs.YtbofmfilnjcihaaW.PrintWords Go.Proofs.YtbofmfilnjcihaaW.PrintLast Go.Proofs.YtbofmfilnjcihaaW.PrintMore
attribute [local go_sem] max2_int min2_int max_two min_two max_three min_three max_four min_four   -- for this text's walks alone
set_option linter.unusedVariables false
set_option linter.unusedSimpArgs false

/-! ### impl_shifting: function 39 -/
theorem bInfo : (Try.prog.info? 52).map (·.size) = some 2 := by kernel_rfl
theorem bLies : liesAt Try.prog Try.prog.depth 52 (2 / Try.prog.cellsOf 52) 0 52 1 = true := by kernel_rfl
theorem bByte : (Try.prog.info? 5).map (fun i => (i.zero, i.size, i.bytes)) = some (some (.int .u8 0), 1, 1) := by kernel_rfl
theorem bCells : Try.prog.cellsOf 5 = 1 := by kernel_rfl
theorem bU50 : Try.prog.underlying 50 = some (.pointer 52) := by kernel_rfl
theorem bU66 : Try.prog.underlying 66 = some .unsafePointer := by kernel_rfl
theorem bU40 : Try.prog.underlying 40 = some (.slice 5) := by kernel_rfl
theorem bU65 : Try.prog.underlying 65 = some (.pointer 5) := by kernel_rfl
theorem bU9 : Try.prog.underlying 9 = some .string := by kernel_rfl
set_option maxHeartbeats 4000000 in
set_option maxRecDepth 100000 in
theorem copyCheck_used (b : Nat) (w : World) (h0 : w.cell? ⟨b, 0, none⟩ = some (.pointer (some ⟨b, 0, none⟩))) :
    Calls Try.prog 49 #[.pointer (some ⟨b, 0, none⟩)] w fun e w' => e = .returned (.tuple #[]) ∧ w' = w := by
  obtain ⟨j, hj, _⟩ := Option.map_eq_some_iff.1 bInfo
  have hu52 := Try.underlying52
  go_enter Try.func49, Try.ntmps49
  go_wp2
  rw [Lib.run_neq_ptr_same w _ bU50 hj]
  go_wp2
  go_end0
  exact ⟨rfl, rfl⟩
set_option maxHeartbeats 4000000 in
set_option maxRecDepth 100000 in
theorem copyCheck_fresh (b : Nat) (w : World) (h0 : w.cell? ⟨b, 0, none⟩ = some (.pointer none)) (hsh : w.shape? b = some (52, 2)) (hfz : w.frozen? ⟨b, 0, none⟩ = false) :
    Calls Try.prog 49 #[.pointer (some ⟨b, 0, none⟩)] w fun e w' => e = .returned (.tuple #[]) ∧ w' = w.setCell ⟨b, 0, none⟩ (.pointer (some ⟨b, 0, none⟩)) := by
  obtain ⟨j, hj, hjs⟩ := Option.map_eq_some_iff.1 bInfo
  have hu52 := Try.underlying52
  go_enter Try.func49, Try.ntmps49
  go_wp2
  rw [Lib.run_to_unsafe w ⟨b, 0, none⟩ bU50 bU66 hj (by rw [hjs]; decide) hsh (Nat.zero_lt_succ 1)]
  simp only [Result.andThen]
  rw [Oper.upon_value]
  go_wp2
  rw [run_callFunc_extern Try.func51 (by kernel_rfl) (by kernel_rfl) (by kernel_rfl) (e := Extern.AbiNoEscape.same) (by kernel_rfl)]
  rw [Lib.run_noEscape]
  simp only [Result.andThen]
  rw [Oper.upon_value]
  go_wp2
  rw [Lib.run_from_unsafe w ⟨b, 0, none⟩ bU66 bU50 hj hsh bLies]
  simp only [Result.andThen]
  rw [Oper.upon_value]
  go_wp2
  go_end0
  exact ⟨rfl, rfl⟩
/-- What another variable's block holds stays. -/
def KeepV (b : Nat) (w w' : World) : Prop := ∀ k c, k ≠ b → w.heap[k]? = some (.cells c 4 (0, 0)) → w'.heap[k]? = some (.cells c 4 (0, 0))
theorem KeepV.trans {b : Nat} {w w1 w2 : World} (h : KeepV b w w1) (h2 : KeepV b w1 w2) : KeepV b w w2 := fun k c hk e => h2 k c hk (h k c hk e)
theorem KeepV.refl (b : Nat) (w : World) : KeepV b w w := fun _ _ _ e => e
theorem KeepV.set {b : Nat} {w : World} (j : Nat) (v : Value) : KeepV b w (w.setCell ⟨b, j, none⟩ v) := fun k c hk e => blk_far e (by show k ≠ b; exact hk) _
theorem copyCheck_any (B b : Nat) (bs : List Value) (w : World) (h : Lib.IsBuilder 52 5 B b bs w) :
    Calls Try.prog 49 #[.pointer (some ⟨b, 0, none⟩)] w fun e w' => e = .returned (.tuple #[]) ∧ Lib.BuilderAt 52 5 B b (.pointer (some ⟨b, 0, none⟩)) bs w' ∧ Below B w w' ∧ KeepV b w w' := by
  rcases h with h | h
  · refine (copyCheck_fresh b w h.cell0 h.shape h.frozen0).mono ?_
    rintro e w' ⟨rfl, rfl⟩
    exact ⟨rfl, h.used _, (Below.refl B w).setCell (p := ⟨b, 0, none⟩) h.1 _, KeepV.set _ _⟩
  · refine (copyCheck_used b w h.cell0).mono ?_
    rintro e w' ⟨rfl, rfl⟩
    exact ⟨rfl, h, Below.refl B _, KeepV.refl _ _⟩
set_option maxHeartbeats 4000000 in
set_option maxRecDepth 100000 in
theorem bWriteByte (B b : Nat) (bs : List Value) (c : Int) (w : World) (h : Lib.IsBuilder 52 5 B b bs w) (hlen : bs.length + 1 ≤ 140737488355328) (hBw : B ≤ w.heap.size) :
    Calls Try.prog 42 #[.pointer (some ⟨b, 0, none⟩), .int .u8 c] w fun e w' => e = .returned .nilIface ∧ Lib.BuilderAt 52 5 B b (.pointer (some ⟨b, 0, none⟩)) (bs ++ [.int .u8 c]) w' ∧ Below B w w' ∧ KeepV b w w' := by
  obtain ⟨i0, hi, hz0, hz1, hz2⟩ := info_parts bByte
  have hu52 := Try.underlying52
  have e240 : ∀ args w, (callFunc 49 args).run Try.prog w = .ok (.enter 49 args) w := enters_of Try.func49 (by kernel_rfl) rfl
  go_enter Try.func42, Try.ntmps42
  go_wp2_with (go_at_fn 49; refine (copyCheck_any B b bs _ h).mono ?_)
  rintro e w1 ⟨rfl, h1, hb1, hk1⟩
  obtain ⟨hB, v, hbk, hown, hne⟩ := h1
  have c0 : w1.cell? ⟨b, 0, none⟩ = some (.pointer (some ⟨b, 0, none⟩)) := by rw [Lib.cell_of_heap hbk]; rfl
  have c1 : w1.cell? ⟨b, 1, none⟩ = some v := by rw [Lib.cell_of_heap hbk]; rfl
  go_wp2_with (at_builtin; refine wpList_append_own _ rfl _ _ 40 rfl B 5 i0 (.int .u8 0) 1 1 bU40 hi hz0 hz1 hz2 rfl (by decide) _ _ _ rfl (hown.alloc _) ⟨w1.heap.size, 0, none⟩ 1 1 [.int .u8 c] rfl rfl ?c1 ?c2 ?c3 ?c4 ?c5 ?_)
  case c1 =>
    intro j u hj
    match j, hj with
    | 0, hj => simp at hj; subst hj; simp [Addr.add]
  case c2 => intro u hu; simp at hu; subst hu; rfl
  case c3 => unfold maxLen; omega
  case c4 => omega
  case c5 => have := hb1.size; simp; omega
  intro v' w2 hown' hgrow _
  have hlt : b < w1.heap.size := by
    rcases Nat.lt_or_ge b w1.heap.size with h' | h'
    · exact h'
    · simp [Array.getElem?_eq_none h'] at hbk
  have hb2 : w2.heap[b]? = some (.cells #[.pointer (some ⟨b, 0, none⟩), v] 52 (0, 0)) := by
    rw [hgrow.block b (by simp; omega) (fun e => hne e.symm), Lib.alloc_old w1 _ b hlt]
    exact hbk
  have hk2 : KeepV b w1 w2 := fun k cs hk e => by
    have hkl : k < w1.heap.size := blk_lt e
    rw [hgrow.block k (by simp; omega) (fun e2 => Lib.ownBlock_ne hown e (by decide) e2.symm), Lib.alloc_old w1 _ k hkl]
    exact e
  have d0 : w2.cell? ⟨b, 0, none⟩ = some (.pointer (some ⟨b, 0, none⟩)) := by rw [Lib.cell_of_heap hb2]; rfl
  have d1 : w2.cell? ⟨b, 1, none⟩ = some v := by rw [Lib.cell_of_heap hb2]; rfl
  have f1 : w2.frozen? ⟨b, 1, none⟩ = false := Lib.frozen_of_heap hb2 1
  obtain ⟨g, cap, rfl⟩ : ∃ g cap, v' = .slice (some ⟨g, 0, none⟩) (bs.length + 1) cap := by
    rcases hown'.2 with ⟨_, h0⟩ | ⟨g, cap, cur, hv, _⟩
    · omega
    · exact ⟨g, cap, hv⟩
  go_wp2
  go_ret
  refine ⟨rfl, ?_, ?_, hk1.trans (hk2.trans (KeepV.set _ _))⟩
  · exact Lib.BuilderAt.put (T := 52) (e := 5) hB hb2 (bs' := bs ++ [.int .u8 c]) (by simpa using hown') (by decide)
  · exact ((hb1.alloc (by have := hb1.size; omega) _).grown hgrow (by have := hb1.size; simp; omega) (fun k hk => (hown.lt k hk).1)).setCell (p := ⟨b, 1, none⟩) hB _
set_option maxHeartbeats 4000000 in
set_option maxRecDepth 100000 in
theorem bWriteString (B b : Nat) (bs : List Value) (s : ByteArray) (w : World) (h : Lib.IsBuilder 52 5 B b bs w) (hlen : bs.length + s.size ≤ 140737488355328) (hBw : B ≤ w.heap.size) :
    Calls Try.prog 40 #[.pointer (some ⟨b, 0, none⟩), .string s] w fun e w' => e = .returned (.tuple #[.int .i64 s.size, .nilIface]) ∧ Lib.BuilderAt 52 5 B b (.pointer (some ⟨b, 0, none⟩)) (bs ++ Lib.strCells s) w' ∧ Below B w w' := by
  obtain ⟨i0, hi, hz0, hz1, hz2⟩ := info_parts bByte
  have hu52 := Try.underlying52
  have e240 : ∀ args w, (callFunc 49 args).run Try.prog w = .ok (.enter 49 args) w := enters_of Try.func49 (by kernel_rfl) rfl
  go_enter Try.func40, Try.ntmps40
  go_wp2_with (go_at_fn 49; refine (copyCheck_any B b bs _ h).mono ?_)
  rintro e w1 ⟨rfl, h1, hb1, _⟩
  obtain ⟨hB, v, hbk, hown, hne⟩ := h1
  have c0 : w1.cell? ⟨b, 0, none⟩ = some (.pointer (some ⟨b, 0, none⟩)) := by rw [Lib.cell_of_heap hbk]; rfl
  have c1 : w1.cell? ⟨b, 1, none⟩ = some v := by rw [Lib.cell_of_heap hbk]; rfl
  go_wp2_with (at_builtin; refine Lib.wpList_append_own_string _ rfl _ _ 40 9 rfl B 5 i0 bU40 bU9 hi hz0 hz1 hz2 _ _ _ rfl hown s rfl ?c3 ?c4 ?c5 ?_)
  case c3 => unfold maxLen; omega
  case c4 => omega
  case c5 => have := hb1.size; omega
  intro v' w2 hown' hgrow _
  have hlt : b < w1.heap.size := by
    rcases Nat.lt_or_ge b w1.heap.size with h' | h'
    · exact h'
    · simp [Array.getElem?_eq_none h'] at hbk
  have hb2 : w2.heap[b]? = some (.cells #[.pointer (some ⟨b, 0, none⟩), v] 52 (0, 0)) := by
    rw [hgrow.block b hlt (fun e => hne e.symm)]
    exact hbk
  have d0 : w2.cell? ⟨b, 0, none⟩ = some (.pointer (some ⟨b, 0, none⟩)) := by rw [Lib.cell_of_heap hb2]; rfl
  have d1 : w2.cell? ⟨b, 1, none⟩ = some v := by rw [Lib.cell_of_heap hb2]; rfl
  have f1 : w2.frozen? ⟨b, 1, none⟩ = false := Lib.frozen_of_heap hb2 1
  obtain ⟨ao, n', cap, rfl⟩ : ∃ ao n' cap, v' = .slice ao n' cap := by
    rcases hown'.2 with ⟨hv, _⟩ | ⟨g, cap, cur, hv, _⟩
    · exact ⟨_, _, _, hv⟩
    · exact ⟨_, _, _, hv⟩
  go_wp2
  go_ret2
  refine ⟨rfl, ?_, ?_⟩
  · exact Lib.BuilderAt.put (T := 52) (e := 5) hB hb2 (bs' := bs ++ Lib.strCells s) (by simpa [Lib.strCells_length] using hown') (by decide)
  · exact (hb1.grown hgrow (by have := hb1.size; omega) (fun k hk => (hown.lt k hk).1)).setCell (p := ⟨b, 1, none⟩) hB _
set_option maxHeartbeats 4000000 in
set_option maxRecDepth 100000 in
theorem bString (B b : Nat) (l : List UInt8) (w : World) (h : Lib.IsBuilder 52 5 B b (Lib.byteCells l) w) (h0 : l ≠ []) :
    Calls Try.prog 44 #[.pointer (some ⟨b, 0, none⟩)] w fun e w' => e = .returned (.string ⟨l.toArray⟩) ∧ Below B w w' := by
  obtain ⟨p, hB, v, hbk, hown, hne⟩ : ∃ p, Lib.BuilderAt 52 5 B b p (Lib.byteCells l) w := by
    rcases h with h | h
    · exact ⟨_, h⟩
    · exact ⟨_, h⟩
  have hl0 : l.length ≠ 0 := by simpa using h0
  rw [Lib.byteCells_length] at hown
  obtain ⟨g, cap, cur, rfl, hbg, hg, hnc, hcm, hcs, htake⟩ : ∃ g cap cur, v = .slice (some ⟨g, 0, none⟩) l.length cap ∧ B ≤ g ∧ w.heap[g]? = some (.cells cur 5 (0, 0)) ∧ l.length ≤ cap ∧ cap ≤ maxLen ∧ cur.size = cap * 1 ∧ cur.toList.take (l.length * 1) = Lib.byteCells l := by
    rcases hown.2 with ⟨_, hz⟩ | ⟨g, cap, cur, hv, r⟩
    · exact absurd hz hl0
    · exact ⟨g, cap, cur, hv, r⟩
  have c1 : w.drew.cell? ⟨b, 1, none⟩ = some (.slice (some ⟨g, 0, none⟩) l.length cap) := by
    have : w.drew.heap[b]? = some (.cells #[p, .slice (some ⟨g, 0, none⟩) l.length cap] 52 (0, 0)) := hbk
    rw [Lib.cell_of_heap this]; rfl
  have hSD : (Builtin.unsafeSliceData_ #[40] 65 #[.slice (some ⟨g, 0, none⟩) l.length cap]).run Try.prog w.drew = .ok (.pointer (some ⟨g, 0, none⟩)) w.drew :=
    Lib.run_unsafeSliceData_row _ _ _ _ _ _ (by omega)
  have hUS : (Builtin.unsafeString_ #[65, 3] 9 #[.pointer (some ⟨g, 0, none⟩), .int .i64 l.length]).run Try.prog w.drew = .ok (.string ⟨l.toArray⟩) (w.drew.freeze ⟨g, 0, none⟩ l.length) := by
    refine Lib.run_unsafeString_row w.drew 65 3 9 5 bU65 bCells g cur.size (by have hg' : w.drew.heap[g]? = some (.cells cur 5 (0, 0)) := hg; simp [World.shape?, hg']) l h0 (by omega) (by unfold maxLen at hcm; omega) ?_
    intro j x hx
    have := hown.cells (g := g) rfl j (.int .u8 x.toNat) (by simp [Lib.byteCells, hx])
    exact this
  have hu52 := Try.underlying52
  have mixed : Try.prog.follows Departure.mixedOrders = true := by kernel_rfl
  go_enter Try.func44, Try.ntmps44
  go_wp2
  go_region_o
  all_goals (go_wp2; go_ret; exact ⟨rfl, Lib.below_freeze (Below.drew (Below.refl B w)) (p := ⟨g, 0, none⟩) hbg _⟩)
set_option maxHeartbeats 4000000 in
set_option maxRecDepth 100000 in
theorem bString_nil (B b : Nat) (p : Value) (w : World) (hbk : w.heap[b]? = some (.cells #[p, .slice none 0 0] 52 (0, 0))) :
    Calls Try.prog 44 #[.pointer (some ⟨b, 0, none⟩)] w fun e w' => e = .returned (.string ⟨#[]⟩) ∧ Below B w w' := by
  have hUS : ∀ (W : World) (q : Option Addr), (Builtin.unsafeString_ #[65, 3] 9 #[.pointer q, .int .i64 0]).run Try.prog W = .ok (.string .empty) W := fun W q => Lib.run_unsafeString_none W _ _ _ q
  have c1 : w.drew.cell? ⟨b, 1, none⟩ = some (.slice none 0 0) := by
    have : w.drew.heap[b]? = some (.cells #[p, .slice none 0 0] 52 (0, 0)) := hbk
    rw [Lib.cell_of_heap this]; rfl
  have hSD : (Builtin.unsafeSliceData_ #[40] 65 #[.slice none 0 0]).run Try.prog w.drew = .ok (.pointer none) w.drew := rfl
  have hu52 := Try.underlying52
  have mixed : Try.prog.follows Departure.mixedOrders = true := by kernel_rfl
  go_enter Try.func44, Try.ntmps44
  go_wp2
  go_region_o
  all_goals (go_wp2; go_ret; exact ⟨rfl, Below.drew (Below.refl B w)⟩)
/-- Numbers as the cells of bytes. -/
def cellsN (l : List Int) : List Value := l.map (Value.int .u8 ·)
theorem cellsN_len (l : List Int) : (cellsN l).length = l.length := by simp [cellsN]
theorem cellsN_snoc (l : List Int) (x : Int) : cellsN (l ++ [x]) = cellsN l ++ [.int .u8 x] := by simp [cellsN]
theorem cellsN_bytes (l : List Int) (h : ∀ x ∈ l, 0 ≤ x ∧ x < 256) : cellsN l = Lib.byteCells (l.map fun n => UInt8.ofNat n.toNat) := by
  unfold cellsN Lib.byteCells
  rw [List.map_map]
  refine List.map_congr_left fun x hx => ?_
  have := h x hx
  simp only [Function.comp, UInt8.toNat_ofNat']
  congr 1
  omega
theorem mU63 : Try.prog.underlying 63 = some (.map 4 5) := by kernel_rfl
theorem mU5 : Try.prog.underlying 5 = some (.int .u8) := by kernel_rfl
theorem mU4 : Try.prog.underlying 4 = some .bool := by kernel_rfl
theorem mapTwo (W : World) (tt : Bool) : ∃ w1 w2, (Instr.mapUpdate 63 (.map (some W.heap.size)) (.bool true) (.int .u8 14)).run Try.prog (W.alloc (.map #[] 0)) = .ok () w1 ∧ (Instr.mapUpdate 63 (.map (some W.heap.size)) (.bool false) (.int .u8 15)).run Try.prog w1 = .ok () w2 ∧ (Instr.lookup 63 (.map (some W.heap.size)) (.bool tt) false).run Try.prog w2 = .ok (.int .u8 (if tt = true then 14 else 15)) w2 ∧ (W.alloc (.map #[] 0)).grownBy w1 (some W.heap.size) ∧ w1.grownBy w2 (some W.heap.size) := by
  have K := Go.Maps.bool_keyed (P := Try.prog) (k := 4) mU4
  have hk : ∀ x : Bool, keyOf Try.prog 4 (.bool x) = some (.bool x) := fun x => by cases x <;> kernel_rfl
  have o0 := World.ownsMap_made (H := Unit) W Try.prog 4 (plainElem Try.prog 5)
  obtain ⟨w1, r1, o1, g1⟩ := o0.update K mU63 (by decide) (hk true) (plainElem_int mU5 (a := 14) rfl)
  obtain ⟨w2, r2, o2, g2⟩ := o1.update K mU63 (by decide) (hk false) (plainElem_int mU5 (a := 15) rfl)
  have hz : (zeroValue 5).run Try.prog w2 = .ok (.int .u8 0) w2 := by go_simp
  obtain ⟨c, r3, hat, _⟩ := o2.lookup_int K mU63 mU5 hz (hk tt)
  refine ⟨w1, w2, r1, r2, ?_, g1, g2⟩
  rw [r3]
  cases tt
  · have e : (15 : Int) = c := by injection (show DataW.lit (Lit.int .u8 15) = (DataW.lit (Lit.int .u8 c) : DataW Unit) from hat) with e; injection e
    rw [← e]; rfl
  · have e : (14 : Int) = c := by injection (show DataW.lit (Lit.int .u8 14) = (DataW.lit (Lit.int .u8 c) : DataW Unit) from hat) with e; injection e
    rw [← e]; rfl
theorem bKept {B b : Nat} {bs : List Value} {w w' : World} {k : Nat} (h : Lib.IsBuilder 52 5 B b bs w) (hg : w.grownBy w' (some k)) (hk : w.heap.size ≤ k) : Lib.IsBuilder 52 5 B b bs w' := by
  have go : ∀ p, Lib.BuilderAt 52 5 B b p bs w → Lib.BuilderAt 52 5 B b p bs w' := fun p hp => by
    have hlt := hp.lt
    obtain ⟨hB, v, hb, hown, hne⟩ := hp
    refine ⟨hB, v, (hg.block b hlt (fun e => by have := Option.some.inj e; omega)).trans hb, hown.kept hg (.inr (fun e => ?_)), hne⟩
    have := (hown.lt k e).2
    omega
  exact h.elim (fun x => .inl (go _ x)) (fun x => .inr (go _ x))
theorem bSet {B b gn : Nat} {bs : List Value} {w : World} {c : Array Value} {v : Value} (h : Lib.IsBuilder 52 5 B b bs w) (hon : w.heap[gn]? = some (.cells c 4 (0, 0))) (hne : gn ≠ b) : Lib.IsBuilder 52 5 B b bs (w.setCell ⟨gn, 0, none⟩ v) := by
  have hg : w.grownBy (w.setCell ⟨gn, 0, none⟩ v) (some gn) := ⟨rfl, rfl, rfl, by simp [World.setCell], fun k _ hk => Below.heap_setCell _ _ _ _ (fun e => hk (by simp [e]))⟩
  have go : ∀ p, Lib.BuilderAt 52 5 B b p bs w → Lib.BuilderAt 52 5 B b p bs (w.setCell ⟨gn, 0, none⟩ v) := fun p hp => by
    have hlt := hp.lt
    obtain ⟨hB, v, hb, hown, hn2⟩ := hp
    exact ⟨hB, v, (hg.block b hlt (fun e => hne (Option.some.inj e).symm)).trans hb, hown.kept hg (.inr (Lib.ownBlock_ne hown hon (by decide))), hn2⟩
  exact h.elim (fun x => .inl (go _ x)) (fun x => .inr (go _ x))
/-- The closure that turns the shift. -/
def turnV (on tt : Bool) : List Int := if on = tt then [] else [if tt = true then 14 else 15]
set_option maxHeartbeats 4000000 in
set_option maxRecDepth 100000 in
theorem turnC (B b gn : Nat) (on tt : Bool) (nums : List Int) (w : World) (h : Lib.IsBuilder 52 5 B b (cellsN nums) w) (hon : w.heap[gn]? = some (.cells #[.bool on] 4 (0, 0))) (hne : gn ≠ b) (hB : B ≤ gn) (hl : nums.length ≤ 1000000) :
    Calls Try.prog 48 #[.bool tt, .pointer (some ⟨gn, 0, none⟩), .pointer (some ⟨b, 0, none⟩)] w fun e w' => e = .returned (.tuple #[]) ∧ Lib.IsBuilder 52 5 B b (cellsN (nums ++ turnV on tt)) w' ∧ w'.heap[gn]? = some (.cells #[.bool tt] 4 (0, 0)) ∧ Below B w w' ∧ (on = tt → w'.heap[b]? = w.heap[b]?) := by
  have hc : w.cell? ⟨gn, 0, none⟩ = some (.bool on) := (blk_cell hon 0).trans rfl
  have hBw : B ≤ w.heap.size := Nat.le_trans hB (Nat.le_of_lt (blk_lt hon))
  by_cases e : on = tt
  · subst e
    have hv : turnV on on = [] := by simp [turnV]
    rw [hv, List.append_nil]
    have hd : (on != on) = false := by cases on <;> rfl
    have HI := Aside0.mk h
    have HO := Aside0.mk hon
    clear h hon
    go_enter Try.func48, Try.ntmps48
    go_wp2
    go_end0
    first | exact ⟨rfl, HI.out, HO.out, Below.refl _ _, fun _ => rfl⟩ | exact ⟨rfl, HI.out, HO.out, Below.refl _ _⟩
  · have hd : (on != tt) = true := by cases on <;> cases tt <;> simp_all
    have hv : turnV on tt = [if tt = true then 14 else 15] := by unfold turnV; rw [if_neg e]
    rw [hv]
    obtain ⟨w1, w2, r1, r2, r3, g1, g2⟩ := mapTwo w tt
    have g0 := World.grownBy_alloc w (.map #[] 0) (some w.heap.size)
    have hsz : w.heap.size < (w.alloc (.map #[] 0)).heap.size := by simp
    have s1 := g1.size
    have s2 := g2.size
    have gA : w.grownBy w2 (some w.heap.size) := ⟨g2.os.trans (g1.os.trans g0.os), g2.tape.trans (g1.tape.trans g0.tape), g2.output.trans (g1.output.trans g0.output), by omega, fun k hk hn => (g2.block k (by omega) hn).trans ((g1.block k (by omega) hn).trans (g0.block k hk hn))⟩
    have h2 := bKept h gA (Nat.le_refl _)
    have hon2 : w2.heap[gn]? = some (.cells #[.bool on] 4 (0, 0)) := (gA.block gn (blk_lt hon) (fun e => by have := Option.some.inj e; have := blk_lt hon; omega)).trans hon
    have hb2 : Below B w w2 := (Below.refl B w).grown gA hBw (fun k hk => by have := Option.some.inj hk; omega)
    have HW := Aside0.mk (bWriteByte B b (cellsN nums) (if tt = true then 14 else 15) w2 h2 (by rw [cellsN_len]; omega) (Nat.le_trans hBw gA.size))
    have HON := Aside0.mk hon2
    have HB2 := Aside0.mk hb2
    clear h hon h2 hon2 hb2 gA g0 g1 g2 s1 s2 hsz
    have hmk : ∀ W, (Instr.makeMap 63 none).run Try.prog W = .ok (.map (some W.heap.size)) (W.alloc (.map #[] 0)) := fun W => rfl
    cases tt
    · have hcn : cellsN nums ++ [.int .u8 15] = cellsN (nums ++ [15]) := (cellsN_snoc _ _).symm
      have HW2 : Aside0 (Calls Try.prog 42 #[.pointer (some ⟨b, 0, none⟩), .int .u8 15] w2 fun e w' => e = .returned .nilIface ∧ Lib.BuilderAt 52 5 B b (.pointer (some ⟨b, 0, none⟩)) (cellsN nums ++ [.int .u8 15]) w' ∧ Below B w2 w' ∧ KeepV b w2 w') := HW
      have r4 : (Instr.lookup 63 (.map (some w.heap.size)) (.bool false) false).run Try.prog w2 = .ok (.int .u8 15) w2 := r3
      clear HW r3
      go_enter Try.func48, Try.ntmps48
      go_wp2_with (go_at_call 42; (with_reducible refine HW2.out.mono ?_); rintro e w3 ⟨rfl, hBA, hb3, hk3⟩; rw [hcn] at hBA; have hon3 := hk3 gn _ hne HON.out; have hI3 : Lib.IsBuilder 52 5 B b (cellsN (nums ++ [15])) w3 := .inr hBA; have hc3 : w3.cell? ⟨gn, 0, none⟩ = some (.bool on) := (blk_cell hon3 0).trans rfl; have hf3 := blk_frozen hon3 0; have HI3 := Aside0.mk (bSet (v := .bool false) hI3 hon3 hne); have HO3 := Aside0.mk (blk_put hon3 0 (.bool false) (cs' := #[.bool false]) rfl); have HB3 := Aside0.mk ((HB2.out.trans hb3).setCell (p := ⟨gn, 0, none⟩) hB (.bool false)); clear hBA hb3 hk3 hI3 hon3)
      go_end0
      first | exact ⟨rfl, HI3.out, HO3.out, HB3.out⟩ | exact ⟨rfl, HI3.out, HO3.out, HB3.out, fun e2 => absurd e2 e⟩
    · have hcn : cellsN nums ++ [.int .u8 14] = cellsN (nums ++ [14]) := (cellsN_snoc _ _).symm
      have HW2 : Aside0 (Calls Try.prog 42 #[.pointer (some ⟨b, 0, none⟩), .int .u8 14] w2 fun e w' => e = .returned .nilIface ∧ Lib.BuilderAt 52 5 B b (.pointer (some ⟨b, 0, none⟩)) (cellsN nums ++ [.int .u8 14]) w' ∧ Below B w2 w' ∧ KeepV b w2 w') := HW
      have r4 : (Instr.lookup 63 (.map (some w.heap.size)) (.bool true) false).run Try.prog w2 = .ok (.int .u8 14) w2 := r3
      clear HW r3
      go_enter Try.func48, Try.ntmps48
      go_wp2_with (go_at_call 42; (with_reducible refine HW2.out.mono ?_); rintro e w3 ⟨rfl, hBA, hb3, hk3⟩; rw [hcn] at hBA; have hon3 := hk3 gn _ hne HON.out; have hI3 : Lib.IsBuilder 52 5 B b (cellsN (nums ++ [14])) w3 := .inr hBA; have hc3 : w3.cell? ⟨gn, 0, none⟩ = some (.bool on) := (blk_cell hon3 0).trans rfl; have hf3 := blk_frozen hon3 0; have HI3 := Aside0.mk (bSet (v := .bool true) hI3 hon3 hne); have HO3 := Aside0.mk (blk_put hon3 0 (.bool true) (cs' := #[.bool true]) rfl); have HB3 := Aside0.mk ((HB2.out.trans hb3).setCell (p := ⟨gn, 0, none⟩) hB (.bool true)); clear hBA hb3 hk3 hI3 hon3)
      go_end0
      first | exact ⟨rfl, HI3.out, HO3.out, HB3.out⟩ | exact ⟨rfl, HI3.out, HO3.out, HB3.out, fun e2 => absurd e2 e⟩
/-- The bytes of runes with the shift turned where it must be. -/
def shF : List Int → Bool → List Int
  | [], on => turnV on false
  | r :: t, on => if r < 32 then r % 256 :: shF t on else if r < 127 then turnV on false ++ (r % 256 :: shF t false) else turnV on true ++ ((r - 12352 + 32) % 256 :: shF t true)
theorem turnV_rng (on tt : Bool) : ∀ x ∈ turnV on tt, 0 ≤ x ∧ x < 256 := by
  unfold turnV
  split
  · simp
  · cases tt <;> simp
theorem turnV_len (on tt : Bool) : (turnV on tt).length ≤ 1 := by
  unfold turnV
  split <;> simp
theorem shF_rng : ∀ (l : List Int) (on : Bool), ∀ x ∈ shF l on, 0 ≤ x ∧ x < 256
  | [], on => turnV_rng on false
  | r :: t, on => by
    intro x hx
    unfold shF at hx
    split at hx
    · rcases List.mem_cons.1 hx with rfl | h
      · omega
      · exact shF_rng t _ x h
    · split at hx
      · rcases List.mem_append.1 hx with h | h
        · exact turnV_rng _ _ x h
        · rcases List.mem_cons.1 h with rfl | h
          · omega
          · exact shF_rng t _ x h
      · rcases List.mem_append.1 hx with h | h
        · exact turnV_rng _ _ x h
        · rcases List.mem_cons.1 h with rfl | h
          · omega
          · exact shF_rng t _ x h
theorem shF_len : ∀ (l : List Int) (on : Bool), (shF l on).length ≤ 2 * l.length + 1
  | [], on => by have := turnV_len on false; simpa [shF] using this
  | r :: t, on => by
    unfold shF
    have h1 := shF_len t on
    have h2 := shF_len t false
    have h3 := shF_len t true
    have h4 := turnV_len on false
    have h5 := turnV_len on true
    split
    · simp only [List.length_cons]; omega
    · split
      · simp only [List.length_cons, List.length_append]; omega
      · simp only [List.length_cons, List.length_append]; omega
def impl_shifting.f (l : List Int) : Option ByteArray := if l.length ≤ 100000 ∧ (∀ r ∈ l, 0 ≤ r ∧ r ≤ 1114111) then some (strOfNums (shF l false)) else none
/-- The builder's text. -/
theorem bText (B b : Nat) (nums : List Int) (w : World) (h : Lib.IsBuilder 52 5 B b (cellsN nums) w) (hr : ∀ x ∈ nums, 0 ≤ x ∧ x < 256) (h0 : nums = [] → ∃ p, w.heap[b]? = some (.cells #[p, .slice none 0 0] 52 (0, 0))) :
    Calls Try.prog 44 #[.pointer (some ⟨b, 0, none⟩)] w fun e w' => e = .returned (.string (strOfNums nums)) ∧ Below B w w' := by
  cases nums with
  | nil =>
    obtain ⟨p, hp⟩ := h0 rfl
    exact bString_nil B b p w hp
  | cons x t =>
    rw [cellsN_bytes _ hr] at h
    exact bString B b _ w h (by simp)
set_option maxHeartbeats 8000000 in
set_option maxRecDepth 100000 in
theorem impl_shifting.calls (A0 : Option Addr) (c0 : Nat) (l0 : List Int) (r : ByteArray) (w : World) (hr0 : Kd.C (Kd.int .i64) w A0 l0.length l0) (hc0 : l0.length ≤ c0) (h : impl_shifting.f l0 = some r) :
    Calls Try.prog 39 #[.slice A0 l0.length c0] w fun e w' => e = .returned (.string r) ∧ Below w.heap.size w w' := by
  unfold impl_shifting.f at h
  split at h
  case isFalse => cases h
  rename_i hg
  obtain ⟨hl, hrg⟩ := hg
  obtain rfl := Option.some.inj h
  clear h
  have hu52 := Try.underlying52
  have HR := Aside0.mk hr0
  have HG := Aside0.mk hrg
  have eg : ∀ args w, (callFunc 48 args).run Try.prog w = .ok (.enter 48 args) w := enters_of Try.func48 (by kernel_rfl) rfl
  clear hr0 hrg
  go_enter Try.func39, Try.ntmps39
  go_wp2
  go_loopw [11] (fun v W => ∃ (j : Nat) (nums : List Int) (on : Bool), j ≤ l0.length ∧ v = .int .i64 (j : Int) ∧ Aside0 (nums ++ shF (l0.drop j) on = shF l0 false) ∧ Aside0 (Lib.IsBuilder 52 5 w.heap.size w.heap.size (cellsN nums) W) ∧ Aside0 (W.heap[w.heap.size + 1]? = some (.cells #[.bool on] 4 (0, 0))) ∧ Aside0 (Below w.heap.size w W) ∧ Aside0 (nums = [] → ∃ p, W.heap[w.heap.size]? = some (.cells #[p, .slice none 0 0] 52 (0, 0)))) (fun v W => l0.length - (intOf v).toNat)
  case atStart =>
    have hb := blk_alloc (blk_new w (.cells #[.pointer none, .slice none 0 0] 52)) (.cells #[.bool false] 4)
    have hs1 : (w.alloc (.cells #[.pointer none, .slice none 0 0] 52)).heap.size = w.heap.size + 1 := by simp
    have hon := blk_new (w.alloc (.cells #[.pointer none, .slice none 0 0] 52)) (.cells #[.bool false] 4)
    rw [hs1] at hon
    exact ⟨0, [], false, Nat.zero_le _, rfl, ⟨rfl⟩, ⟨.inl ⟨Nat.le_refl _, _, hb, ⟨rfl, .inl ⟨rfl, rfl⟩⟩, by simp [Value.ownBlock]⟩⟩, ⟨hon⟩, ⟨below_alloc (below_alloc (Below.refl _ _) _) _⟩, ⟨fun _ => ⟨_, hb⟩⟩⟩
  case round =>
    obtain ⟨j, nums, on, hj, rfl, HE, HI, HO, HB, HN⟩ := hrel
    have hnl : nums.length ≤ 1000000 := by
      have h1 := congrArg List.length HE.out
      have h2 := shF_len l0 false
      rw [List.length_append] at h1
      omega
    have hBs := HB.out.size
    by_cases hlt : j < l0.length
    · obtain ⟨ad, ea, hx⟩ := Kd.at_int (Kd.C_below HR.out HB.out) (j : Int) (by omega) (by omega)
      subst ea
      have hrj : rd l0 (j : Int) = l0[j] := by unfold rd; simp [List.getD_eq_getElem?_getD, hlt]
      have hdr : l0.drop j = l0[j] :: l0.drop (j + 1) := List.drop_eq_getElem_cons hlt
      obtain ⟨g1, g2⟩ := HG.out _ (List.getElem_mem hlt)
      rw [hrj, Int.toNat_natCast] at hx
      have HE1 := HE.out
      rw [hdr] at HE1
      generalize l0[j] = r at *
      have q1 : decide (j < l0.length) = true := decide_eq_true hlt
      have hcl : (cellsN nums).length + 1 ≤ 140737488355328 := by rw [cellsN_len]; omega
      by_cases c1 : r < 32
      · have k1 : decide (r < 32) = true := decide_eq_true c1
        have hm : r % 256 = r := by omega
        have HE2 := Aside0.mk (show (nums ++ [r]) ++ shF (l0.drop (j + 1)) on = shF l0 false by rw [← HE1, shF, if_pos c1, hm]; simp)
        have HW := Aside0.mk (bWriteByte w.heap.size w.heap.size (cellsN nums) r wr HI.out hcl hBs)
        clear hdr HE1 hrj hm
        go_wp2_with (go_at_call 42; (with_reducible refine HW.out.mono ?_); rintro e w1 ⟨rfl, hBA, hb1, hk1⟩; have HON2 := Aside0.mk (hk1 _ _ (by omega) HO.out); have HI2 : Aside0 (Lib.IsBuilder 52 5 w.heap.size w.heap.size (cellsN (nums ++ [r])) w1) := ⟨.inr (by rw [cellsN_snoc]; exact hBA)⟩; have HB2 := Aside0.mk (HB.out.trans hb1); clear hBA hb1 hk1)
        go_roundw
        case rel => exact ⟨j + 1, _, on, by omega, by go_num, HE2, HI2, HON2, HB2, ⟨fun e => absurd e (by simp)⟩⟩
        case measure => simp [intOf] <;> omega
      · by_cases c2 : r < 127
        · have k1 : decide (r < 32) = false := decide_eq_false c1
          have k2 : decide (r < 127) = true := decide_eq_true c2
          have hm : r % 256 = r := by omega
          have HE2 := Aside0.mk (show (nums ++ turnV on false ++ [r]) ++ shF (l0.drop (j + 1)) false = shF l0 false by rw [← HE1, shF, if_neg c1, if_pos c2, hm]; simp)
          have HT := Aside0.mk (turnC w.heap.size w.heap.size (w.heap.size + 1) on false nums wr HI.out HO.out (by omega) (by omega) hnl)
          have htl := turnV_len on false
          clear hdr HE1 hrj hm
          go_wp2_with (first | (go_at_fn 48; (with_reducible refine HT.out.mono ?_); rintro e w1 ⟨rfl, hI1, hO1, hb1, hs1⟩; have HO1 := Aside0.mk hO1; have HB1 := Aside0.mk (HB.out.trans hb1); have HW := Aside0.mk (bWriteByte w.heap.size w.heap.size (cellsN (nums ++ turnV on false)) r w1 hI1 (by rw [cellsN_len, List.length_append]; omega) HB1.out.size); clear hI1 hO1 hb1 hs1) | (go_at_call 42; (with_reducible refine HW.out.mono ?_); rintro e w2 ⟨rfl, hBA, hb1, hk1⟩; have HON2 := Aside0.mk (hk1 _ _ (by omega) HO1.out); have HI2 : Aside0 (Lib.IsBuilder 52 5 w.heap.size w.heap.size (cellsN (nums ++ turnV on false ++ [r])) w2) := ⟨.inr (by rw [cellsN_snoc]; exact hBA)⟩; have HB2 := Aside0.mk (HB1.out.trans hb1); clear hBA hb1 hk1))
          go_roundw
          case rel => exact ⟨j + 1, _, false, by omega, by go_num, HE2, HI2, HON2, HB2, ⟨fun e => absurd e (by simp)⟩⟩
          case measure => simp [intOf] <;> omega
        · have k1 : decide (r < 32) = false := decide_eq_false c1
          have k2 : decide (r < 127) = false := decide_eq_false c2
          have HE2 := Aside0.mk (show (nums ++ turnV on true ++ [(r - 12352 + 32) % 256]) ++ shF (l0.drop (j + 1)) true = shF l0 false by rw [← HE1, shF, if_neg c1, if_neg c2]; simp)
          have HT := Aside0.mk (turnC w.heap.size w.heap.size (w.heap.size + 1) on true nums wr HI.out HO.out (by omega) (by omega) hnl)
          have htl := turnV_len on true
          have hw1 : IntKind.i64.wrap (r - 12352) = r - 12352 := by rw [IntKind.wrap_i64]; omega
          have hw2 : IntKind.i64.wrap (r - 12352 + 32) = r - 12352 + 32 := by rw [IntKind.wrap_i64]; omega
          clear hdr HE1 hrj
          go_wp2_with (first | (go_at_fn 48; (with_reducible refine HT.out.mono ?_); rintro e w1 ⟨rfl, hI1, hO1, hb1, hs1⟩; have HO1 := Aside0.mk hO1; have HB1 := Aside0.mk (HB.out.trans hb1); have HW := Aside0.mk (bWriteByte w.heap.size w.heap.size (cellsN (nums ++ turnV on true)) ((r - 12352 + 32) % 256) w1 hI1 (by rw [cellsN_len, List.length_append]; omega) HB1.out.size); clear hI1 hO1 hb1 hs1) | (go_at_call 42; (with_reducible refine HW.out.mono ?_); rintro e w2 ⟨rfl, hBA, hb1, hk1⟩; have HON2 := Aside0.mk (hk1 _ _ (by omega) HO1.out); have HI2 : Aside0 (Lib.IsBuilder 52 5 w.heap.size w.heap.size (cellsN (nums ++ turnV on true ++ [(r - 12352 + 32) % 256])) w2) := ⟨.inr (by rw [cellsN_snoc]; exact hBA)⟩; have HB2 := Aside0.mk (HB1.out.trans hb1); clear hBA hb1 hk1))
          go_roundw
          case rel => exact ⟨j + 1, _, true, by omega, by go_num, HE2, HI2, HON2, HB2, ⟨fun e => absurd e (by simp)⟩⟩
          case measure => simp [intOf] <;> omega
    · obtain rfl : j = l0.length := by omega
      have q1 : decide (l0.length < l0.length) = false := decide_eq_false (by omega)
      have HE1 := HE.out
      rw [List.drop_length, shF] at HE1
      have HT := Aside0.mk (turnC w.heap.size w.heap.size (w.heap.size + 1) on false nums wr HI.out HO.out (by omega) (by omega) hnl)
      have hr2 := shF_rng l0 false
      rw [← HE1] at hr2
      have HRG := Aside0.mk hr2
      have hoff : nums ++ turnV on false = [] → on = false ∧ nums = [] := fun e => by
        have e2 := List.append_eq_nil_iff.1 e
        refine ⟨?_, e2.1⟩
        cases on
        · rfl
        · simp [turnV] at e2
      have HF := Aside0.mk hoff
      have HEQ := Aside0.mk HE1
      clear HE1 hr2 hoff
      go_wp2_with (first | (go_at_fn 48; (with_reducible refine HT.out.mono ?_); rintro e w1 ⟨rfl, hI1, hO1, hb1, hs1⟩; have HB1 := Aside0.mk (HB.out.trans hb1); have HS := Aside0.mk (bText w.heap.size w.heap.size (nums ++ turnV on false) w1 hI1 HRG.out (fun e0 => by rw [hs1 (HF.out e0).1]; exact HN.out (HF.out e0).2)); clear hI1 hO1 hb1 hs1) | (go_at_call 44; (with_reducible refine HS.out.mono ?_); rintro e w2 ⟨rfl, hb2⟩; have HB2 := Aside0.mk (HB1.out.trans hb2); clear hb2))
      go_ret
      exact ⟨by rw [← HEQ.out]; rfl, HB2.out⟩

/-! ### impl_utf8Of: function 41 -/
def impl_utf8Of.f (a0 : Int) : Option (ByteArray) := some (Utf8.encode (wrap32 a0))
theorem impl_utf8Of.calls (a0 : Int) (r : ByteArray) (w : World) (h : impl_utf8Of.f a0 = some r) :
    Calls Try.prog 41 #[.int .i64 a0] w fun e w' => e = .returned (.string r) ∧ Drawn0 w w' := by
  obtain rfl := Option.some.inj h
  clear h
  go_enter Try.func41, Try.ntmps41
  go_wp2
  go_ret
  exact ⟨by first | rfl | (simp; done) | (simp [*]; done), by repeat (first | exact Drawn0.refl _ | apply Drawn0.step)⟩

/-! ### impl_unit: function 50 -/
def impl_unit.f (a0 : Int) (a1 : Int) : Option (ByteArray) := if a0 = 2 then (some (strOfNums (([(a1 / 256) % 256, (a1) % 256] : List Int)))) else (some (strOfNums (([(a1) % 256, (a1 / 256) % 256] : List Int))))
set_option maxHeartbeats 8000000 in
set_option maxRecDepth 100000 in
theorem impl_unit.calls (a0 : Int) (a1 : Int) (r : ByteArray) (w : World) (h : impl_unit.f a0 a1 = some r) :
    Calls Try.prog 50 #[.int .i64 a0, .int .i64 a1] w fun e w' => e = .returned (.string r) ∧ Below w.heap.size w w' := by
  have HB := Aside0.mk (Below.refl w.heap.size w)
  have H : (if a0 = 2 then (some (strOfNums (([(a1 / 256) % 256, (a1) % 256] : List Int)))) else (some (strOfNums (([(a1) % 256, (a1 / 256) % 256] : List Int))))) = some r := h
  clear h
  by_cases c3 : a0 = 2
  · rw [if_pos c3] at H
    have c3b0 : (a0 == 2) = true := beq_iff_eq.mpr c3
    have c3b1 : (a0 != 2) = false := bne_eq_false_iff_eq.mpr c3
    clear c3
    obtain ⟨y166, hy166⟩ : ∃ y_ : List Int, y_ = (([(a1 / 256) % 256, (a1) % 256] : List Int)) := ⟨_, rfl⟩
    replace H : (some (strOfNums y166)) = some r := by first | (rw [hy166]; with_reducible exact H) | (have H2_ := (Option.bind_some _ _).symm.trans H; rw [hy166]; with_reducible exact H2_) | (have H2_ := (Option.bind_some _ _).symm.trans H; with_reducible exact H2_) | with_reducible exact H | (rw [hy166]; exact H) | exact H
    have Ny166 := Aside0.mk hy166
    clear hy166
    obtain rfl := Option.some.inj H
    go_enter Try.func50, Try.ntmps50
    go_wp2_with (first | ((with_reducible refine gate_dst (N := 12) rfl ?_); refine Kd.R_lit (Kd.int .u8) _ 5 ?hg (N := 12) ?hd (xs := ([(a1 / 256) % 256, (a1) % 256] : List Int)) (inner := [.int .u8 ((a1 / 256) % 256), .int .u8 ((a1) % 256)]) (ok := fun _ => True) (okp := fun _ => True) ?hr ?hp (fun _ hk => hk) trivial (Below.refl _ _) (Nat.le_refl _) (by simp) ?_; (case hd => rfl); (case hg => rfl); (case hr => first | (go_simp; done) | (go_simp; rfl)); (case hp => exact (Reps.one (show Kd.M (Kd.int .u8) _ _ _ ((a1 / 256) % 256) [.int .u8 ((a1 / 256) % 256)] from rfl) (Reps.one (show Kd.M (Kd.int .u8) _ _ _ ((a1) % 256) [.int .u8 ((a1) % 256)] from rfl) (Reps.none _ _)))); intro v167 w4 ho5 hb hg_ hnew_; clear hg_ hnew_; (first | rw [← Ny166.out] at ho5 | (simp only [Int.reduceToNat] at ho5; rw [← Ny166.out] at ho5)); have n0_ := Aside0.mk (Kd.R_lower ho5 (below_size (by repeat (first | (with_reducible first | exact HB.out | apply below_alloc | apply pw_below_drewN | apply below_drew1) | exact HB.out | exact Below.refl _ _)))); have n1_ := Aside0.mk (below_step (by repeat (first | (with_reducible first | exact HB.out | apply below_alloc | apply pw_below_drewN | apply below_drew1) | exact HB.out | exact Below.refl _ _)) hb); clear HB; have HO168 := n0_; have HB := n1_; clear n0_ n1_; clear hb ho5; have hcv6 := own_string (P := Try.prog) Try.underlying40 Try.underlying5 Try.underlying9 (Kd.own_of_R HO168.out)))
    go_ret
    exact ⟨by first | rfl | (simp [errW_none, errW_some] <;> rfl) | (simp [*, errW_none, errW_some] <;> rfl), by repeat (first | (with_reducible first | exact HB.out | apply below_alloc | apply pw_below_drewN | apply below_drew1) | exact HB.out | exact Below.refl _ _)⟩
  · rw [if_neg c3] at H
    have c3b0 : (a0 == 2) = false := beq_eq_false_iff_ne.mpr c3
    have c3b1 : (a0 != 2) = true := bne_iff_ne.mpr c3
    obtain ⟨y169, hy169⟩ : ∃ y_ : List Int, y_ = (([(a1) % 256, (a1 / 256) % 256] : List Int)) := ⟨_, rfl⟩
    replace H : (some (strOfNums y169)) = some r := by first | (rw [hy169]; with_reducible exact H) | (have H2_ := (Option.bind_some _ _).symm.trans H; rw [hy169]; with_reducible exact H2_) | (have H2_ := (Option.bind_some _ _).symm.trans H; with_reducible exact H2_) | with_reducible exact H | (rw [hy169]; exact H) | exact H
    have Ny169 := Aside0.mk hy169
    clear hy169
    obtain rfl := Option.some.inj H
    go_enter Try.func50, Try.ntmps50
    go_wp2_with (first | ((with_reducible refine gate_dst (N := 19) rfl ?_); refine Kd.R_lit (Kd.int .u8) _ 5 ?hg (N := 19) ?hd (xs := ([(a1) % 256, (a1 / 256) % 256] : List Int)) (inner := [.int .u8 ((a1) % 256), .int .u8 ((a1 / 256) % 256)]) (ok := fun _ => True) (okp := fun _ => True) ?hr ?hp (fun _ hk => hk) trivial (Below.refl _ _) (Nat.le_refl _) (by simp) ?_; (case hd => rfl); (case hg => rfl); (case hr => first | (go_simp; done) | (go_simp; rfl)); (case hp => exact (Reps.one (show Kd.M (Kd.int .u8) _ _ _ ((a1) % 256) [.int .u8 ((a1) % 256)] from rfl) (Reps.one (show Kd.M (Kd.int .u8) _ _ _ ((a1 / 256) % 256) [.int .u8 ((a1 / 256) % 256)] from rfl) (Reps.none _ _)))); intro v170 w7 ho8 hb hg_ hnew_; clear hg_ hnew_; (first | rw [← Ny169.out] at ho8 | (simp only [Int.reduceToNat] at ho8; rw [← Ny169.out] at ho8)); have n0_ := Aside0.mk (Kd.R_lower ho8 (below_size (by repeat (first | (with_reducible first | exact HB.out | apply below_alloc | apply pw_below_drewN | apply below_drew1) | exact HB.out | exact Below.refl _ _)))); have n1_ := Aside0.mk (below_step (by repeat (first | (with_reducible first | exact HB.out | apply below_alloc | apply pw_below_drewN | apply below_drew1) | exact HB.out | exact Below.refl _ _)) hb); clear HB; have HO171 := n0_; have HB := n1_; clear n0_ n1_; clear hb ho8; have hcv9 := own_string (P := Try.prog) Try.underlying40 Try.underlying5 Try.underlying9 (Kd.own_of_R HO171.out)))
    go_ret
    exact ⟨by first | rfl | (simp [errW_none, errW_some] <;> rfl) | (simp [*, errW_none, errW_some] <;> rfl), by repeat (first | (with_reducible first | exact HB.out | apply below_alloc | apply pw_below_drewN | apply below_drew1) | exact HB.out | exact Below.refl _ _)⟩

end Go.Proofs.Ytbofmfilnjcihaa.HFnExactEncodeAll
