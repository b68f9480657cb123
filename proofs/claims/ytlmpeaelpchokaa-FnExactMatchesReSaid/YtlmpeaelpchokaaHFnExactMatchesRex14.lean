/- Written by wip/pr.py of this session, for the law FnExactMatchesRe: Lean functions with the answers of the program's, and the proofs of that; where the kit's print has no word, by hand. -/
import Derived.Test.YtlmpeaelpchokaaHFnExactMatchesRex0
import Derived.Test.YtlmpeaelpchokaaHFnExactMatchesRex10
import Derived.Test.YtlmpeaelpchokaaHFnExactMatchesRex11
import Derived.Test.YtlmpeaelpchokaaHFnExactMatchesRex12
import Derived.Test.YtlmpeaelpchokaaHFnExactMatchesRex13
namespace Go.Proofs.Ytlmpeaelpchokaa.HFnExactMatchesRe
open Go.RowKit Go.Proofs.YtlmpeaelpchokaaW.PrintWords Go.Proofs.YtlmpeaelpchokaaW.PrintLast Go.Proofs.YtlmpeaelpchokaaW.PrintMore
attribute [local go_sem] max2_int min2_int max_two min_two max_three min_three max_four min_four   -- for this text's walks alone
set_option linter.unusedVariables false
set_option linter.unusedSimpArgs false

/-! ### impl_match: function 63 -/
/-- n + 1 cells. -/
def arrOf (n : Nat) (f : Nat → Value) : Array Value := ((List.range (n + 1)).map f).toArray
theorem arr_get {n : Nat} {f : Nat → Value} {k : Nat} (h : k ≤ n) : (arrOf n f)[k]? = some (f k) := by
  unfold arrOf
  rw [List.getElem?_toArray, List.getElem?_map, List.getElem?_range (by omega)]; rfl
theorem arr_set {n : Nat} {f : Nat → Value} {i : Nat} (u : Value) : (arrOf n f).setIfInBounds i u = arrOf n (fun k => if k = i then u else f k) := by
  unfold arrOf
  rw [List.setIfInBounds_toArray]
  congr 1
  apply List.ext_getElem?
  intro j
  rw [List.getElem?_set]
  by_cases e : i = j
  · subst e
    rw [if_pos rfl]
    by_cases h : i < n + 1
    · rw [if_pos (by simpa using h), List.getElem?_map, List.getElem?_range h]; simp
    · rw [if_neg (by simpa using h), List.getElem?_map, List.getElem?_eq_none (by simp; omega)]; rfl
  · rw [if_neg e, List.getElem?_map, List.getElem?_map]
    by_cases h : j < n + 1
    · rw [List.getElem?_range h]; simp [show ¬ j = i from fun g => e g.symm]
    · rw [List.getElem?_eq_none (by simp; omega)]; rfl
theorem made_arr (n : Nat) (z : Value) : madeCells #[z] (n + 1) = arrOf n (fun _ => z) := by
  unfold madeCells arrOf
  apply Array.ext'
  simp [Nat.mod_one]
/-- A block of n + 1 cells. -/
def BlkF (W : World) (b t n : Nat) (f : Nat → Value) : Prop := W.heap[b]? = some (.cells (arrOf n f) t (0, 0))
theorem BlkF.put {W : World} {b t n : Nat} {f : Nat → Value} (h : BlkF W b t n f) (i : Nat) (u : Value) : BlkF (W.setCell ⟨b, i, none⟩ u) b t n (fun k => if k = i then u else f k) := blk_put h i u (arr_set u)
theorem BlkF.congr {W : World} {b t n : Nat} {f g : Nat → Value} (h : BlkF W b t n f) (e : ∀ k, k ≤ n → f k = g k) : BlkF W b t n g := by
  unfold BlkF at h ⊢
  rw [h]
  have : arrOf n f = arrOf n g := by
    unfold arrOf
    congr 1
    exact List.map_congr_left fun k hk => e k (by have := List.mem_range.1 hk; omega)
  rw [this]
theorem BlkF.lt {W : World} {b t n : Nat} {f : Nat → Value} (h : BlkF W b t n f) : b < W.heap.size := blk_lt h
theorem BlkF.cell {W : World} {b t n : Nat} {f : Nat → Value} (h : BlkF W b t n f) {k : Nat} (hk : k ≤ n) : W.cell? ⟨b, k, none⟩ = some (f k) := (blk_cell h k).trans (arr_get hk)
theorem BlkF.ints {W : World} {b n : Nat} {v : Nat → Bool} (hn : n ≤ 1000000) (h : BlkF W b 4 n (fun k => .bool (v k))) : Kd.C Kd.bool W (some ⟨b, 0, none⟩) (n + 1) ((List.range (n + 1)).map v) := by
  refine ⟨by simp, by omega, fun _ => ⟨_, rfl, fun j p hj => ⟨[.bool p], rfl, rfl, fun i u hu => ?_⟩⟩⟩
  obtain ⟨hl, hp⟩ := List.getElem?_eq_some_iff.1 hj
  have hjn : j < n + 1 := by simpa using hl
  rw [List.getElem_map, List.getElem_range] at hp
  match i, hu with
  | 0, hu =>
    have hu' : (Value.bool p) = u := Option.some.inj hu
    subst hu'
    have := h.cell (k := j) (by omega)
    rw [hp] at this
    rw [show j * Kd.bool.sz + 0 = j from Nat.mul_one j]
    unfold Addr.add
    split
    · rename_i e; rw [e] at this; exact this
    · rw [Nat.zero_add]; exact this
  | i + 1, hu => simp at hu
/-- A node's rows: the first block holds them, the next n + 1 are them. -/
def NodeAt (W : World) (R n : Nat) (v : Nat → Nat → Bool) : Prop :=
  BlkF W R 81 n (fun j => .slice (some ⟨R + 1 + j, 0, none⟩) (n + 1) (n + 1)) ∧ ∀ j, j ≤ n → BlkF W (R + 1 + j) 4 n (fun k => .bool (v j k))
theorem NodeAt.keep {W W' : World} {R n : Nat} {v : Nat → Nat → Bool} (h : NodeAt W R n v) (hk : ∀ b, R ≤ b → b ≤ R + 1 + n → W'.heap[b]? = W.heap[b]?) : NodeAt W' R n v :=
  ⟨(hk R (by omega) (by omega)).trans h.1, fun j hj => (hk (R + 1 + j) (by omega) (by omega)).trans (h.2 j hj)⟩
theorem NodeAt.lt {W : World} {R n : Nat} {v : Nat → Nat → Bool} (h : NodeAt W R n v) : R + 1 + n < W.heap.size := (h.2 n (Nat.le_refl _)).lt
theorem NodeAt.below {W W' : World} {R n : Nat} {v : Nat → Nat → Bool} (h : NodeAt W R n v) (hb : Below W.heap.size W W') : NodeAt W' R n v :=
  h.keep fun b _ h2 => hb.block b (by have := h.lt; omega)
theorem NodeAt.far {W : World} {R n : Nat} {v : Nat → Nat → Bool} (h : NodeAt W R n v) {p : Addr} (hp : p.block < R ∨ R + 1 + n < p.block) (u : Value) : NodeAt (W.setCell p u) R n v :=
  h.keep fun b h1 h2 => Below.heap_setCell W p u b (by omega)
theorem NodeAt.put {W : World} {R n : Nat} {v : Nat → Nat → Bool} (h : NodeAt W R n v) {a b : Nat} (ha : a ≤ n) (x : Bool) : NodeAt (W.setCell ⟨R + 1 + a, b, none⟩ (.bool x)) R n (fun i j => if i = a ∧ j = b then x else v i j) := by
  refine ⟨blk_far h.1 (by show R ≠ R + 1 + a; omega) _, fun j hj => ?_⟩
  by_cases e : j = a
  · subst e
    exact ((h.2 j hj).put b (.bool x)).congr fun k _ => by
      by_cases g : k = b
      · simp [g]
      · simp [g]
  · exact BlkF.congr (f := fun k => .bool (v j k)) (blk_far (h.2 j hj) (by show R + 1 + j ≠ R + 1 + a; omega) _) fun k _ => by simp [e]
theorem NodeAt.congr {W : World} {R n : Nat} {v v' : Nat → Nat → Bool} (h : NodeAt W R n v) (e : ∀ a b, a ≤ n → b ≤ n → v a b = v' a b) : NodeAt W R n v' :=
  ⟨h.1, fun j hj => (h.2 j hj).congr fun k hk => by rw [e j k hj hk]⟩
theorem NodeAt.rows {W : World} {R n : Nat} {v : Nat → Nat → Bool} (hn : n ≤ 1000000) (h : NodeAt W R n v) : Kd.C (Kd.slice 4 Kd.bool) W (some ⟨R, 0, none⟩) (n + 1) ((List.range (n + 1)).map fun j => (List.range (n + 1)).map (v j)) := by
  refine ⟨by simp, by omega, fun _ => ⟨_, rfl, fun j p hj => ⟨[.slice (some ⟨R + 1 + j, 0, none⟩) (n + 1) (n + 1)], rfl, ?_, fun i u hu => ?_⟩⟩⟩
  all_goals
    obtain ⟨hl, hp⟩ := List.getElem?_eq_some_iff.1 hj
    have hjn : j < n + 1 := by simpa using hl
    rw [List.getElem_map, List.getElem_range] at hp
  · subst hp
    refine ⟨some ⟨R + 1 + j, 0, none⟩, n + 1, by simp, by simp, ?_⟩
    have := (h.2 j (by omega)).ints hn
    simpa using this
  · match i, hu with
    | 0, hu =>
      have hu' := Option.some.inj hu
      subst hu'
      have := h.1.cell (k := j) (by omega)
      rw [show j * (Kd.slice 4 Kd.bool).sz + 0 = j from Nat.mul_one j]
      unfold Addr.add
      split
      · rename_i e; rw [e] at this ⊢; exact this
      · rw [Nat.zero_add]; exact this
    | i + 1, hu => simp at hu
/-- The table as lists. -/
def mkT (m n : Nat) (V : Nat → Nat → Nat → Bool) : List (List (List Bool)) := (List.range m).map fun t => (List.range (n + 1)).map fun a => (List.range (n + 1)).map (V t a)
theorem mkT_len (m n : Nat) (V : Nat → Nat → Nat → Bool) : (mkT m n V).length = m := by simp [mkT]
theorem mkT_at {m n : Nat} {V : Nat → Nat → Nat → Bool} {t : Nat} (h : t < m) : (mkT m n V).getD t [] = (List.range (n + 1)).map fun a => (List.range (n + 1)).map (V t a) := by
  unfold mkT
  rw [List.getD_eq_getElem?_getD, List.getElem?_map, List.getElem?_range h]; rfl
theorem mkT_row {n : Nat} {v : Nat → Nat → Bool} {a : Nat} (h : a ≤ n) : ((List.range (n + 1)).map fun a => (List.range (n + 1)).map (v a)).getD a [] = (List.range (n + 1)).map (v a) := by
  rw [List.getD_eq_getElem?_getD, List.getElem?_map, List.getElem?_range (by omega)]; rfl
theorem mkT_dims (m n : Nat) (V : Nat → Nat → Nat → Bool) : Dims (mkT m n V) n := by
  intro t ht
  rw [mkT_len] at ht
  rw [mkT_at ht]
  exact ⟨by simp, fun b hb => by rw [mkT_row hb]; simp⟩
theorem mkT_hv {m n : Nat} {V : Nat → Nat → Nat → Bool} {t a b : Nat} (ht : t < m) (ha : a ≤ n) (hb : b ≤ n) : hv (mkT m n V) t a b = V t a b := by
  unfold hv
  rw [mkT_at ht, mkT_row ha, List.getD_eq_getElem?_getD, List.getElem?_map, List.getElem?_range (by omega)]; rfl
/-- A node's rows as one value. -/
def encR (n : Nat) (R : Nat) : Value := .slice (some ⟨R, 0, none⟩) (n + 1) (n + 1)
theorem table_C {W : World} {n : Nat} (hn : n ≤ 1000000) {A : Option Addr} {Rs : List Nat} {V : Nat → Nat → Nat → Bool} {h1 : ∀ x, (encR n x).oneCell' = true} (hT : Kd.C (Kd.scalar (encR n) h1) W A Rs.length Rs) (hN : ∀ t, t < Rs.length → NodeAt W (Rs.getD t 0) n (V t)) :
    Kd.C (Kd.slice 81 (Kd.slice 4 Kd.bool)) W A (mkT Rs.length n V).length (mkT Rs.length n V) := by
  rw [mkT_len]
  refine ⟨mkT_len _ _ _, hT.2.1, fun hp => ?_⟩
  obtain ⟨ad, e, hc⟩ := hT.2.2 hp
  refine ⟨ad, e, fun j p hj => ?_⟩
  obtain ⟨hl, hp⟩ := List.getElem?_eq_some_iff.1 hj
  rw [mkT_len] at hl
  have hp' : p = (List.range (n + 1)).map fun a => (List.range (n + 1)).map (V j a) := by
    rw [← mkT_at (n := n) (V := V) hl, List.getD_eq_getElem?_getD, hj]; rfl
  obtain ⟨c, hcs, hcK, hcell⟩ := hc j _ (List.getElem?_eq_getElem hl)
  have hcK' : c = [encR n Rs[j]] := hcK
  subst hcK'
  refine ⟨_, rfl, ⟨some ⟨Rs[j], 0, none⟩, n + 1, ?_, ?_, ?_⟩, hcell⟩
  · rw [hp']; simp [encR]
  · rw [hp']; simp
  · have := (hN j hl).rows hn
    rw [hp']
    rw [show Rs.getD j 0 = Rs[j] from by rw [List.getD_eq_getElem?_getD, List.getElem?_eq_getElem hl]; rfl] at this
    simpa using this
theorem encR_one (n : Nat) : ∀ x, (encR n x).oneCell' = true := fun _ => rfl
theorem info81m : (Try.prog.info? 81).map (fun i => (i.zero, i.size, i.bytes)) = some (some (.slice none 0 0), 1, 24) := by kernel_rfl
theorem info4m : (Try.prog.info? 4).map (fun i => (i.zero, i.size, i.bytes)) = some (some (.bool false), 1, 1) := by kernel_rfl
theorem und82m : Try.prog.underlying 82 = some (.slice 79) := by kernel_rfl
theorem info79m : (Try.prog.info? 79).map (fun i => (i.zero, i.size, i.bytes)) = some (some (.slice none 0 0), 1, 24) := by kernel_rfl
theorem make79 (n : Nat) (hn : n ≤ 1000000) (W : World) : (Instr.makeSlice 79 (.int .i64 ((n : Int) + 1)) (.int .i64 ((n : Int) + 1))).run Try.prog W = .ok (.slice (some ⟨W.heap.size, 0, none⟩) (n + 1) (n + 1)) (W.alloc (.cells (arrOf n fun _ => .slice none 0 0) 81)) := by
  obtain ⟨i, hi, hz, hs, hb⟩ := info_parts info81m
  have := run_makeSlice (P := Try.prog) W 79 81 i _ Try.underlying79 hi hz .i64 .i64 ((n : Int) + 1) ((n : Int) + 1) (by omega) (by omega) (by rw [hs]; omega) (by rw [hb]; omega) (by omega)
  rw [hs, show ((n : Int) + 1).toNat = n + 1 from by omega, Nat.mul_one, show (Value.slice none 0 0).cells = #[.slice none 0 0] from rfl, made_arr] at this
  exact this
theorem make81 (n : Nat) (hn : n ≤ 1000000) (W : World) : (Instr.makeSlice 81 (.int .i64 ((n : Int) + 1)) (.int .i64 ((n : Int) + 1))).run Try.prog W = .ok (.slice (some ⟨W.heap.size, 0, none⟩) (n + 1) (n + 1)) (W.alloc (.cells (arrOf n fun _ => .bool false) 4)) := by
  obtain ⟨i, hi, hz, hs, hb⟩ := info_parts info4m
  have := run_makeSlice (P := Try.prog) W 81 4 i _ Try.underlying81 hi hz .i64 .i64 ((n : Int) + 1) ((n : Int) + 1) (by omega) (by omega) (by rw [hs]; omega) (by rw [hb]; omega) (by omega)
  rw [hs, show ((n : Int) + 1).toNat = n + 1 from by omega, Nat.mul_one, show (Value.bool false).cells = #[.bool false] from rfl, made_arr] at this
  exact this
/-- What holds of the matcher at block g while nodes are looked at. -/
structure St (w1 W : World) (p : List S49) (A0 : Option Addr) (c0 : Nat) (parts : List (List Int)) (A1 : Option Addr) (c1 : Nat) (l : List Int) (A2 : Option Addr) (c2 n : Nat) (Rs : List Nat) (vt : Value) (V : Nat → Nat → Nat → Bool) : Prop where
  below : Below w1.heap.size w1 W
  blk : W.heap[w1.heap.size]? = some (.cells #[.slice A0 p.length c0, .slice A1 parts.length c1, .slice A2 l.length c2, vt] 84 (0, 0))
  row : Kd.R (Kd.scalar (encR n) (encR_one n)) 79 W w1.heap.size (fun b => b ≠ w1.heap.size ∧ ∀ R ∈ Rs, b < R ∨ R + 1 + n < b) vt Rs
  node : ∀ t, t < Rs.length → NodeAt W (Rs.getD t 0) n (V t)
  above : ∀ R ∈ Rs, w1.heap.size < R
/-- The new rows of a node, j of them made. -/
structure Cur (wr W : World) (n j : Nat) : Prop where
  below : Below wr.heap.size wr W
  size : W.heap.size = wr.heap.size + 1 + j
  rows : BlkF W wr.heap.size 81 n (fun t => if t < j then .slice (some ⟨wr.heap.size + 1 + t, 0, none⟩) (n + 1) (n + 1) else .slice none 0 0)
  cells : ∀ t, t < j → BlkF W (wr.heap.size + 1 + t) 4 n (fun _ => .bool false)
theorem Cur.start {wr : World} {n : Nat} : Cur wr (wr.alloc (.cells (arrOf n fun _ => .slice none 0 0) 81)) n 0 := by
  refine ⟨below_alloc (Below.refl _ _) _, by simp, ?_, fun t ht => by omega⟩
  exact BlkF.congr (f := fun _ => .slice none 0 0) (blk_new wr _) fun k _ => by simp
theorem Cur.step {wr W : World} {n j : Nat} (h : Cur wr W n j) (hj : j ≤ n) : Cur wr ((W.alloc (.cells (arrOf n fun _ => .bool false) 4)).setCell ⟨wr.heap.size, j, none⟩ (.slice (some ⟨W.heap.size, 0, none⟩) (n + 1) (n + 1))) n (j + 1) := by
  obtain ⟨h1, h2, h3, h4⟩ := h
  refine ⟨below_set (below_alloc h1 _) (Nat.le_refl _), by simp [World.setCell, h2]; omega, ?_, fun t ht => ?_⟩
  · refine ((BlkF.put (f := _) (show BlkF (W.alloc _) wr.heap.size 81 n _ from blk_alloc h3 _) j _)).congr fun k _ => ?_
    by_cases e : k = j
    · subst e; simp [h2]
    · rw [if_neg e]
      by_cases g : k < j
      · rw [if_pos g, if_pos (by omega)]
      · rw [if_neg g, if_neg (by omega)]
  · by_cases e : t = j
    · subst e
      rw [← h2]
      exact blk_far (blk_new W _) (by show W.heap.size ≠ wr.heap.size; omega) _
    · exact blk_far (blk_alloc (h4 t (by omega)) _) (by show wr.heap.size + 1 + t ≠ wr.heap.size; omega) _
theorem Cur.done {wr W : World} {n : Nat} (h : Cur wr W n (n + 1)) : NodeAt W wr.heap.size n (fun _ _ => false) :=
  ⟨h.rows.congr fun k hk => by rw [if_pos (by omega)], fun j hj => h.cells j (by omega)⟩
theorem Cur.step2 {wr W : World} {n j : Nat} (h : Cur wr W n j) (hj : j ≤ n) : Cur wr ((W.setCell ⟨wr.heap.size, j, none⟩ (.slice (some ⟨W.heap.size, 0, none⟩) (n + 1) (n + 1))).alloc (.cells (arrOf n fun _ => .bool false) 4)) n (j + 1) := by
  obtain ⟨h1, h2, h3, h4⟩ := h
  have hz : (W.setCell ⟨wr.heap.size, j, none⟩ (.slice (some ⟨W.heap.size, 0, none⟩) (n + 1) (n + 1))).heap.size = W.heap.size := by simp [World.setCell]
  refine ⟨below_alloc (below_set h1 (Nat.le_refl _)) _, by simp [World.setCell, h2]; omega, ?_, fun t ht => ?_⟩
  · refine BlkF.congr (f := _) (show BlkF (World.alloc _ _) wr.heap.size 81 n _ from blk_alloc (h3.put j _) _) fun k _ => ?_
    by_cases e : k = j
    · subst e; simp [h2]
    · rw [if_neg e]
      by_cases g : k < j
      · rw [if_pos g, if_pos (by omega)]
      · rw [if_neg g, if_neg (by omega)]
  · by_cases e : t = j
    · have e2 : wr.heap.size + 1 + t = (W.setCell ⟨wr.heap.size, j, none⟩ (.slice (some ⟨W.heap.size, 0, none⟩) (n + 1) (n + 1))).heap.size := by rw [hz, h2, e]
      show (World.alloc _ _).heap[wr.heap.size + 1 + t]? = _
      rw [e2]
      exact blk_new _ _
    · exact blk_alloc (blk_far (h4 t (by omega)) (by show wr.heap.size + 1 + t ≠ wr.heap.size; omega) _) _
theorem St.go {w1 W W' : World} {p : List S49} {A0 : Option Addr} {c0 : Nat} {parts : List (List Int)} {A1 : Option Addr} {c1 : Nat} {l : List Int} {A2 : Option Addr} {c2 n : Nat} {Rs : List Nat} {vt : Value} {V : Nat → Nat → Nat → Bool} (h : St w1 W p A0 c0 parts A1 c1 l A2 c2 n Rs vt V) (hb : Below W.heap.size W W') : St w1 W' p A0 c0 parts A1 c1 l A2 c2 n Rs vt V :=
  ⟨h.below.trans (hb.mono h.below.size), blk_below h.blk hb, Kd.R_below h.row hb, fun t ht => (h.node t ht).below hb, h.above⟩
theorem getD_mem {Rs : List Nat} {t : Nat} (h : t < Rs.length) : Rs.getD t 0 ∈ Rs := by
  rw [List.getD_eq_getElem?_getD, List.getElem?_eq_getElem h]; exact List.getElem_mem _
theorem mem_getD {Rs : List Nat} {R : Nat} (h : R ∈ Rs) : ∃ t, t < Rs.length ∧ Rs.getD t 0 = R := by
  obtain ⟨t, ht, e⟩ := List.getElem_of_mem h
  exact ⟨t, ht, by rw [List.getD_eq_getElem?_getD, List.getElem?_eq_getElem ht, Option.getD_some, e]⟩
/-- A node's rows behind the others. -/
theorem St.append {w1 W0 W w6 : World} {p : List S49} {A0 : Option Addr} {c0 : Nat} {parts : List (List Int)} {A1 : Option Addr} {c1 : Nat} {l : List Int} {A2 : Option Addr} {c2 n : Nat} {Rs : List Nat} {vt v4 : Value} {V : Nat → Nat → Nat → Bool} (h : St w1 W0 p A0 c0 parts A1 c1 l A2 c2 n Rs vt V) (hb0 : Below W0.heap.size W0 W) (hN : NodeAt W W0.heap.size n (fun _ _ => false))
    (ho : Kd.R (Kd.scalar (encR n) (encR_one n)) 79 w6 w1.heap.size (fun b => b ≠ w1.heap.size ∧ ∀ R ∈ Rs ++ [W0.heap.size], b < R ∨ R + 1 + n < b) v4 (Rs ++ [W0.heap.size])) (hb : Below w1.heap.size w1 w6) (hg : W.grownBy w6 vt.ownBlock) :
    w6.heap[w1.heap.size]? = some (.cells #[.slice A0 p.length c0, .slice A1 parts.length c1, .slice A2 l.length c2, vt] 84 (0, 0)) ∧ St w1 (w6.setCell ⟨w1.heap.size, 3, none⟩ v4) p A0 c0 parts A1 c1 l A2 c2 n (Rs ++ [W0.heap.size]) v4 (fun t => if t < Rs.length then V t else fun _ _ => false) := by
  have h' := h.go hb0
  have hlt0 : ∀ R ∈ Rs, R + 1 + n < W0.heap.size := fun R hR => by
    obtain ⟨t, ht, e⟩ := mem_getD hR
    have := (h.node t ht).lt
    rw [e] at this; exact this
  have hrow := Kd.R_bound h.row
  have hown : ∀ b, vt.ownBlock = some b → b < W0.heap.size ∧ b ≠ w1.heap.size ∧ ∀ R ∈ Rs, b < R ∨ R + 1 + n < b := fun b e => by
    have := hrow.1 b e
    exact ⟨this.2.2.1, this.1⟩
  have hkeep : ∀ b, b < W.heap.size → (vt.ownBlock = some b → False) → w6.heap[b]? = W.heap[b]? := fun b hb1 hb2 => hg.block b hb1 (fun e => hb2 e.symm)
  have hw1 : w1.heap.size < W.heap.size := blk_lt h'.blk
  have hblk : w6.heap[w1.heap.size]? = some (.cells #[.slice A0 p.length c0, .slice A1 parts.length c1, .slice A2 l.length c2, vt] 84 (0, 0)) := (hkeep _ hw1 (fun e => (hown _ e).2.1 rfl)).trans h'.blk
  have hgR : ∀ R ∈ Rs ++ [W0.heap.size], w1.heap.size < R := fun R hR => by
    rcases List.mem_append.1 hR with hR | hR
    · exact h.above R hR
    · rw [List.mem_singleton.1 hR]; exact blk_lt h.blk
  refine ⟨hblk, ⟨below_set hb (Nat.le_refl _), blk_put hblk 3 v4 rfl, Kd.R_far (p := ⟨w1.heap.size, 3, none⟩) ho (fun _ hk => hk.1) v4, fun t ht => ?_, hgR⟩⟩
  rw [List.length_append, List.length_singleton] at ht
  by_cases e : t < Rs.length
  · have e1 : (Rs ++ [W0.heap.size]).getD t 0 = Rs.getD t 0 := by rw [List.getD_eq_getElem?_getD, List.getElem?_append_left e, ← List.getD_eq_getElem?_getD]
    rw [e1]
    simp only [if_pos e]
    have hn := h'.node t e
    have hl := hlt0 _ (getD_mem e)
    refine (hn.keep (W' := w6) fun b g1 g2 => hkeep b (by have := hn.lt; omega) (fun q => ?_)).far (p := ⟨w1.heap.size, 3, none⟩) (Or.inl (h.above _ (getD_mem e))) v4
    have := (hown b q).2.2 _ (getD_mem e)
    omega
  · have e2 : t = Rs.length := by omega
    subst e2
    have e1 : (Rs ++ [W0.heap.size]).getD Rs.length 0 = W0.heap.size := by rw [List.getD_eq_getElem?_getD, List.getElem?_append_right (Nat.le_refl _)]; simp
    rw [e1]
    simp only [if_neg (Nat.lt_irrefl _)]
    refine (hN.keep (W' := w6) fun b g1 g2 => hkeep b (by have := hN.lt; omega) (fun q => ?_)).far (p := ⟨w1.heap.size, 3, none⟩) (Or.inl (blk_lt h.blk)) v4
    have := (hown b q).1
    omega
/-- A value of the last node told. -/
theorem St.put {w1 W : World} {p : List S49} {A0 : Option Addr} {c0 : Nat} {parts : List (List Int)} {A1 : Option Addr} {c1 : Nat} {l : List Int} {A2 : Option Addr} {c2 n : Nat} {Rs : List Nat} {R : Nat} {vt : Value} {V : Nat → Nat → Nat → Bool} (h : St w1 W p A0 c0 parts A1 c1 l A2 c2 n (Rs ++ [R]) vt V) (hs : ∀ R' ∈ Rs, R' + 1 + n < R) {a b : Nat} (ha : a ≤ n) (x : Bool) :
    St w1 (W.setCell ⟨R + 1 + a, b, none⟩ (.bool x)) p A0 c0 parts A1 c1 l A2 c2 n (Rs ++ [R]) vt (fun t => if t < Rs.length then V t else fun i j => if i = a ∧ j = b then x else V t i j) := by
  have hR : w1.heap.size < R := h.above R (by simp)
  refine ⟨below_set h.below (by show w1.heap.size ≤ R + 1 + a; omega), blk_far h.blk (by show w1.heap.size ≠ R + 1 + a; omega) _, Kd.R_far (p := ⟨R + 1 + a, b, none⟩) h.row (fun k hk => by have := hk.2 R (by simp); show k ≠ R + 1 + a; omega) _, fun t ht => ?_, h.above⟩
  have hn := h.node t ht
  rw [List.length_append, List.length_singleton] at ht
  by_cases e : t < Rs.length
  · have e1 : (Rs ++ [R]).getD t 0 = Rs.getD t 0 := by rw [List.getD_eq_getElem?_getD, List.getElem?_append_left e, ← List.getD_eq_getElem?_getD]
    rw [e1] at hn ⊢
    simp only [if_pos e]
    have := hs _ (getD_mem e)
    exact hn.far (p := ⟨R + 1 + a, b, none⟩) (Or.inr (by show Rs.getD t 0 + 1 + n < R + 1 + a; omega)) _
  · have e2 : t = Rs.length := by omega
    subst e2
    have e1 : (Rs ++ [R]).getD Rs.length 0 = R := by rw [List.getD_eq_getElem?_getD, List.getElem?_append_right (Nat.le_refl _)]; simp
    rw [e1] at hn ⊢
    simp only [if_neg (Nat.lt_irrefl _)]
    exact hn.put ha x
theorem St.valCongr {w1 W : World} {p : List S49} {A0 : Option Addr} {c0 : Nat} {parts : List (List Int)} {A1 : Option Addr} {c1 : Nat} {l : List Int} {A2 : Option Addr} {c2 n : Nat} {Rs : List Nat} {vt : Value} {V V' : Nat → Nat → Nat → Bool} (h : St w1 W p A0 c0 parts A1 c1 l A2 c2 n Rs vt V) (e : ∀ t a b, t < Rs.length → a ≤ n → b ≤ n → V t a b = V' t a b) : St w1 W p A0 c0 parts A1 c1 l A2 c2 n Rs vt V' :=
  ⟨h.below, h.blk, h.row, fun t ht => (h.node t ht).congr fun a b ha hb => e t a b ht ha hb, h.above⟩
/-- What look asks. -/
theorem St.ms {w1 W : World} {p : List S49} {A0 : Option Addr} {c0 : Nat} {parts : List (List Int)} {A1 : Option Addr} {c1 : Nat} {l : List Int} {A2 : Option Addr} {c2 n : Nat} {Rs : List Nat} {vt : Value} {V : Nat → Nat → Nat → Bool} (h : St w1 W p A0 c0 parts A1 c1 l A2 c2 n Rs vt V) (hn : n ≤ 1000000) (hp : Kd.C k49 w1 A0 p.length p) (hq : Kd.C (Kd.slice 3 (Kd.int .i64)) w1 A1 parts.length parts) (hl : Kd.C (Kd.int .i64) w1 A2 l.length l) : MS W w1.heap.size p parts l (mkT Rs.length n V) := by
  obtain ⟨A3, c3, e⟩ := Kd.R_slice h.row
  have hrow := h.row
  subst e
  refine ⟨A0, c0, A1, c1, A2, c2, A3, c3, ?_, Kd.C_below hp h.below, Kd.C_below hq h.below, Kd.C_below hl h.below, table_C hn (Kd.R_reads' hrow).2.2 h.node⟩
  rw [mkT_len]; exact h.blk
/-- The rows, with a new node above. -/
theorem St.rowUp {w1 W0 W : World} {p : List S49} {A0 : Option Addr} {c0 : Nat} {parts : List (List Int)} {A1 : Option Addr} {c1 : Nat} {l : List Int} {A2 : Option Addr} {c2 n : Nat} {Rs : List Nat} {vt : Value} {V : Nat → Nat → Nat → Bool} (h : St w1 W0 p A0 c0 parts A1 c1 l A2 c2 n Rs vt V) (hb0 : Below W0.heap.size W0 W) :
    Kd.R (Kd.scalar (encR n) (encR_one n)) 79 W w1.heap.size (fun b => b ≠ w1.heap.size ∧ ∀ R ∈ Rs ++ [W0.heap.size], b < R ∨ R + 1 + n < b) vt Rs :=
  Kd.R_below (Kd.R_mono (Kd.R_bound h.row) fun b hb => ⟨hb.1.1, fun R hR => by
    rcases List.mem_append.1 hR with hR | hR
    · exact hb.1.2 R hR
    · rw [List.mem_singleton.1 hR]; exact Or.inl hb.2.2.1⟩) hb0
theorem St.fresh {w1 W0 W : World} {p : List S49} {A0 : Option Addr} {c0 : Nat} {parts : List (List Int)} {A1 : Option Addr} {c1 : Nat} {l : List Int} {A2 : Option Addr} {c2 n : Nat} {Rs : List Nat} {vt : Value} {V : Nat → Nat → Nat → Bool} (h : St w1 W0 p A0 c0 parts A1 c1 l A2 c2 n Rs vt V) (hb0 : Below W0.heap.size W0 W) (hN : NodeAt W W0.heap.size n (fun _ _ => false)) (k : Nat) (hk : W.heap.size ≤ k) :
    k ≠ w1.heap.size ∧ ∀ R ∈ Rs ++ [W0.heap.size], k < R ∨ R + 1 + n < k := by
  have h1 := blk_lt h.blk
  have h2 := hN.lt
  refine ⟨by omega, fun R hR => Or.inr ?_⟩
  rcases List.mem_append.1 hR with hR | hR
  · obtain ⟨t, ht, e⟩ := mem_getD hR
    have := (h.node t ht).lt
    omega
  · rw [List.mem_singleton.1 hR]; omega
/-- look, at a state. -/
theorem St.look {I : List Int → Int → Bool} {F : Nat → Nat → Nat → Bool} {w1 W : World} {p : List S49} {A0 : Option Addr} {c0 : Nat} {parts : List (List Int)} {A1 : Option Addr} {c1 : Nat} {l : List Int} {A2 : Option Addr} {c2 n : Nat} {Rs : List Nat} {vt : Value} {V : Nat → Nat → Nat → Bool} (h : St w1 W p A0 c0 parts A1 c1 l A2 c2 n Rs vt V) (hn : n ≤ 1000000) (hp : Kd.C k49 w1 A0 p.length p) (hq : Kd.C (Kd.slice 3 (Kd.int .i64)) w1 A1 parts.length parts) (hl : Kd.C (Kd.int .i64) w1 A2 l.length l) (hll : l.length = n)
    {i a b : Nat} (hI : (rd_T49 p (i : Int)).f0 = 2 → ∀ x, ∃ k, impl_inSet.f k (rd_T49 p (i : Int)).f1 x = some (I (rd_T49 p (i : Int)).f1 x)) (hi : i < p.length) (hlen : parts.length = p.length) (hR : Rs.length = i + 1) (hab : a ≤ b) (hb : b ≤ n) (hK : KidsOk p parts i) (hF : lookF I p parts l F i a b = F i a b)
    (h0 : ∀ t x y, t < i → x ≤ y → y ≤ n → V t x y = F t x y) (h1 : ∀ x y, a < x → x ≤ y → y ≤ n → V i x y = F i x y) :
    Calls Try.prog 92 #[.pointer (some ⟨w1.heap.size, 0, none⟩), .int .i64 (i : Int), .int .i64 (a : Int), .int .i64 (b : Int)] W fun e w' => e = .returned (.bool (F i a b)) ∧ Below W.heap.size W w' := by
  have := look_any I F w1.heap.size p parts l (mkT Rs.length n V) n i a b W (h.ms hn hp hq hl) (mkT_dims _ _ _) hll hi (by omega) hb hab hn (by rw [mkT_len]; omega) hK hI
    (fun k x y hk hxy hy => by rw [mkT_hv (by omega) (by omega) hy, h0 k x y hk hxy hy])
    (fun x y hx hxy hy => by rw [mkT_hv (by omega) (by omega) hy, h1 x y hx hxy hy])
  rw [hF] at this
  exact this
theorem cell_setFar {W : World} {b c j k : Nat} {v u : Value} (h : W.cell? ⟨b, j, none⟩ = some v) (hne : b ≠ c) : (W.setCell ⟨c, k, none⟩ u).cell? ⟨b, j, none⟩ = some v := by
  unfold World.cell? at h ⊢
  rw [Below.heap_setCell W ⟨c, k, none⟩ u b hne]
  exact h
set_option maxHeartbeats 8000000 in
set_option maxRecDepth 100000 in
theorem match_walk (I : List Int → Int → Bool) (F : Nat → Nat → Nat → Bool) (k : Nat) (A0 : Option Addr) (c0 : Nat) (p : List S49) (A2 : Option Addr) (c2 : Nat) (l : List Int) (parts : List (List Int)) (ok : Bool) (n : Nat) (w : World) (hp : Kd.C k49 w A0 p.length p) (hc0 : p.length ≤ c0) (hl : Kd.C (Kd.int .i64) w A2 l.length l) (hc2 : l.length ≤ c2) (hn : l.length = n) (hn1 : n ≤ 1000) (hp1 : p.length ≤ 1000) (h : impl_parts.f k p = some (parts, ok))
    (hI : ∀ node, node < p.length → (rd_T49 p (node : Int)).f0 = 2 → ∀ x, ∃ k, impl_inSet.f k (rd_T49 p (node : Int)).f1 x = some (I (rd_T49 p (node : Int)).f1 x)) (hlen : parts.length = p.length) (hK : ∀ node, node < p.length → KidsOk p parts node) (hF : ∀ node a b, node < p.length → a ≤ b → b ≤ n → lookF I p parts l F node a b = F node a b) :
    Calls Try.prog 63 #[.slice A0 p.length c0, .slice A2 l.length c2] w fun e w' => ∃ (g : Nat) (table : List (List (List Bool))), e = .returned (.pointer (some ⟨g, 0, none⟩)) ∧ MS w' g p parts l table ∧ Dims table n ∧ table.length = p.length ∧ (∀ t a b, t < p.length → a ≤ b → b ≤ n → hv table t a b = F t a b) ∧ Below w.heap.size w w' := by
  have HP := Aside0.mk (impl_parts.calls k A0 c0 p parts ok w hp hc0 h)
  have HC0 := Aside0.mk hp
  have HC2 := Aside0.mk hl
  have HF := Aside0.mk hF
  have HK := Aside0.mk hK
  have HLEN := Aside0.mk hlen
  have HI := Aside0.mk hI
  have HN := Aside0.mk hn
  clear hp hl h hF hK hlen hI hn
  have hu84 := Try.underlying84
  go_enter Try.func63, Try.ntmps63
  go_wp2_with (first | (go_at_call 51; (with_reducible refine HP.out.mono ?_); rintro e w1 ⟨v1, rfl, hs, hb⟩; have HS1 := Aside0.mk hs; have HB1 := Aside0.mk hb; clear hs hb; obtain ⟨A1, c1, ev1⟩ := Kd.S_slice HS1.out; subst ev1))
  have HC1 : Aside0 (Kd.C (Kd.slice 3 (Kd.int .i64)) w1 A1 parts.length parts) := ⟨(Kd.R_reads' (Kd.S_R HS1.out)).2.2⟩
  have HST := Aside0.mk (show St w1 (w1.alloc (.cells #[.slice A0 p.length c0, .slice A1 parts.length c1, .slice A2 l.length c2, .slice none 0 0] 84)) p A0 c0 parts A1 c1 l A2 c2 n [] (.slice none 0 0) (fun _ _ _ => false) from
    ⟨below_alloc (Below.refl _ _) _, blk_new w1 _, Kd.R_nil _ _ _ _ _, fun t ht => by simp at ht, fun R hR => by cases hR⟩)
  go_loopw [25] (fun v wr => ∃ (i : Nat) (Rs : List Nat) (vt : Value) (V : Nat → Nat → Nat → Bool), i ≤ p.length ∧ v = .int .i64 i ∧ Aside0 (Rs.length = i) ∧ Aside0 (St w1 wr p A0 c0 parts A1 c1 l A2 c2 n Rs vt V) ∧ Aside0 (∀ t a b, t < i → a ≤ b → b ≤ n → V t a b = F t a b)) (fun v wr => p.length - (intOf v).toNat)
  case atStart => exact ⟨0, [], _, _, by omega, rfl, ⟨rfl⟩, HST, ⟨fun t a b ht => by omega⟩⟩
  case round =>
    obtain ⟨i, Rs, vt, V, hi, rfl, HR, HST1, HV⟩ := hrel
    clear HST
    obtain ⟨W0, rfl⟩ : ∃ W0, W0 = wr := ⟨wr, rfl⟩
    by_cases hc : i < p.length
    · have q1 : decide (i < p.length) = true := decide_eq_true hc
      have hmk1 := make79 n (by omega)
      have hmk2 := make81 n (by omega)
      have hln : ((l.length : Nat) : Int) = (n : Int) := by rw [HN.out]
      have q0 : decide ((0 : Int) ≤ (n : Int) + 1) = true := decide_eq_true (by omega)
      go_wp2
      go_loopw [34] (fun v W => ∃ j : Nat, j ≤ n + 1 ∧ v = .int .i64 j ∧ Aside0 (Cur W0 W n j)) (fun v W => n + 1 - (intOf v).toNat)
      case atStart => exact ⟨0, by omega, rfl, ⟨Cur.start⟩⟩
      case round =>
        obtain ⟨j, hj, rfl, HCU⟩ := hrel
        by_cases hcj : j < n + 1
        · have q2 : decide (j < n + 1) = true := decide_eq_true hcj
          have hsz := HCU.out.size
          have hlt : W0.heap.size < wr.heap.size := by omega
          have hcell := HCU.out.rows.cell (k := j) (by omega)
          have hfz := blk_frozen HCU.out.rows j
          clear hsz
          go_wp2
          go_roundw
          case rel => exact ⟨j + 1, by omega, by go_num, ⟨HCU.out.step2 (by omega)⟩⟩
          case measure => simp [intOf] <;> omega
        · obtain rfl : n + 1 = j := by omega
          have HND := Aside0.mk HCU.out.done
          have HST2 := Aside0.mk (HST1.out.go HCU.out.below)
          have hgz := Aside0.mk (show w1.heap.size < W0.heap.size from blk_lt HST1.out.blk)
          have hgz2 := Aside0.mk (show W0.heap.size < wr.heap.size from HND.out.1.lt)
          have hc3 : wr.cell? ⟨w1.heap.size, 3, none⟩ = some vt := (blk_cell HST2.out.blk 3).trans rfl
          have hrow := Aside0.mk (HST1.out.rowUp HCU.out.below)
          have hfr := Aside0.mk (HST1.out.fresh HCU.out.below HND.out)
          have hlen0 := Aside0.mk (show Rs.length + 1 ≤ 1001 from by have := HR.out; omega)
          go_wp2_with (((with_reducible refine gate_builtin (b := .append) (xs := #[.tmp 49, .tmp 51]) rfl ?_); at_builtin; refine Kd.R_append (Kd.scalar (encR n) (encR_one n)) (w0 := w1) w1.heap.size rfl (.tmp 49) (.tmp 51) 82 79 (.slice none 0 0) 24 rfl und82m info79m rfl (Nat.zero_lt_one) (by omega) vt Rs W0.heap.size [encR n W0.heap.size] (fun b => b ≠ w1.heap.size ∧ ∀ R ∈ Rs ++ [W0.heap.size], b < R ∨ R + 1 + n < b) (fun _ => False) rfl rfl ?aP (fun _ hk => hk.elim) ?aF ?aO ?aB ?aS ?aL ?_; (case aP => exact rfl); (case aF => exact hfr.out); (case aO => exact hrow.out); (case aB => exact HST2.out.below); (case aS => exact HST2.out.below.size); (case aL => have := hlen0.out; omega); intro v4 w6 ho hb hg hat; obtain ⟨A4, c4, e4⟩ := Kd.R_slice ho; subst e4; have HAP := Aside0.mk (HST1.out.append HCU.out.below HND.out ho hb hg); clear ho hb hg hat; have hfz := blk_frozen HAP.out.1 3; have hcell : w6.cell? ⟨w1.heap.size, 3, none⟩ = some vt := (blk_cell HAP.out.1 3).trans rfl))
          have HAP2 := Aside0.mk HAP.out.2
          have hsep : Aside0 (∀ R' ∈ Rs, R' + 1 + n < W0.heap.size) := ⟨fun R' hR' => by
            obtain ⟨t, ht, e⟩ := mem_getD hR'
            have := (HST1.out.node t ht).lt
            rw [e] at this; omega⟩
          have HV2 : Aside0 (∀ t a b, t < i → a ≤ b → b ≤ n → (if t < Rs.length then V t else fun _ _ => false) a b = F t a b) := ⟨fun t a b h1 h2 h3 => by
            have := HR.out
            rw [if_pos (by omega)]; exact HV.out t a b h1 h2 h3⟩
          clear hrow hfr HAP HND HST2 hgz hgz2 hc3 HCU hj hcj
          have eL : (Rs ++ [W0.heap.size]).length = Rs.length + 1 := by simp
          rw [eL] at HAP2
          go_loopw [11] (fun v W => ∃ (c : Nat) (V1 : Nat → Nat → Nat → Bool), c ≤ n + 1 ∧ v = .int .i64 ((c : Int) - 1) ∧ Aside0 (St w1 W p A0 c0 parts A1 c1 l A2 c2 n (Rs ++ [W0.heap.size]) (.slice A4 (Rs.length + 1) c4) V1) ∧ Aside0 (∀ t a b, t < i → a ≤ b → b ≤ n → V1 t a b = F t a b) ∧ Aside0 (∀ a b, c ≤ a → a ≤ b → b ≤ n → V1 i a b = F i a b)) (fun v W => ((intOf v) + 1).toNat)
          case atStart => exact ⟨n + 1, _, by omega, by congr 1; omega, HAP2, HV2, ⟨fun a b h1 h2 h3 => by omega⟩⟩
          case round =>
            obtain ⟨c, V1, hc1, rfl, HS3, HV3, HV4⟩ := hrel
            clear HAP2 HV2
            obtain ⟨W3, rfl⟩ : ∃ W3, W3 = wr := ⟨wr, rfl⟩
            by_cases hc0' : 0 < c
            · obtain ⟨a, rfl⟩ : ∃ a, c = a + 1 := ⟨c - 1, by omega⟩
              have ea : ((a + 1 : Nat) : Int) - 1 = (a : Int) := by omega
              rw [ea]
              have q2 : decide ((0 : Int) ≤ (a : Int)) = true := decide_eq_true (by omega)
              go_wp2
              go_loopw [12] (fun v W => ∃ (b : Nat) (V2 : Nat → Nat → Nat → Bool), a ≤ b ∧ b ≤ n + 1 ∧ v = .int .i64 (b : Int) ∧ Aside0 (St w1 W p A0 c0 parts A1 c1 l A2 c2 n (Rs ++ [W0.heap.size]) (.slice A4 (Rs.length + 1) c4) V2) ∧ Aside0 (∀ t a b, t < i → a ≤ b → b ≤ n → V2 t a b = F t a b) ∧ Aside0 (∀ x y, a < x → x ≤ y → y ≤ n → V2 i x y = F i x y) ∧ Aside0 (∀ y, a ≤ y → y < b → V2 i a y = F i a y)) (fun v W => n + 1 - (intOf v).toNat)
              case atStart => exact ⟨a, V1, by omega, by omega, rfl, HS3, HV3, ⟨fun x y h1 h2 h3 => HV4.out x y (by omega) h2 h3⟩, ⟨fun y h1 h2 => by omega⟩⟩
              case round =>
                obtain ⟨b, V2, hab, hb1, rfl, HS4, HV5, HV6, HV7⟩ := hrel
                clear HV3 HV4
                by_cases hbn : b ≤ n
                · have q3 : decide (b ≤ n) = true := decide_eq_true hbn
                  have HLK : Aside0 (∀ W', Below wr.heap.size wr W' → Calls Try.prog 92 #[.pointer (some ⟨w1.heap.size, 0, none⟩), .int .i64 (i : Int), .int .i64 (a : Int), .int .i64 (b : Int)] W' fun e w' => e = .returned (.bool (F i a b)) ∧ Below wr.heap.size wr w') := ⟨fun W' hB => ((HS4.out.go hB).look (by omega) (Kd.C_below HC0.out HB1.out) HC1.out (Kd.C_below HC2.out HB1.out) HN.out (HI.out i hc) hc HLEN.out (by simp [HR.out]) hab hbn (HK.out i hc) (HF.out i a b hc hab hbn) HV5.out HV6.out).mono fun e w' ⟨h1, h2⟩ => ⟨h1, hB.trans (h2.mono hB.size)⟩⟩
                  have HX : Aside0 (∀ W', Below wr.heap.size wr W' → W'.cell? ⟨W0.heap.size, a, none⟩ = some (.slice (some ⟨W0.heap.size + 1 + a, 0, none⟩) (n + 1) (n + 1)) ∧ W'.cell? ⟨W0.heap.size + 1 + a, b, none⟩ = some (.bool (V2 i a b)) ∧ W'.frozen? ⟨W0.heap.size + 1 + a, b, none⟩ = false) := ⟨fun W' hB => by
                    have hnd := (HS4.out.go hB).node Rs.length (by simp)
                    rw [show (Rs ++ [W0.heap.size]).getD Rs.length 0 = W0.heap.size from by simp, HR.out] at hnd
                    exact ⟨hnd.1.cell (k := a) (by omega), (hnd.2 a (by omega)).cell (k := b) hbn, blk_frozen (hnd.2 a (by omega)) b⟩⟩
                  have hcell := (HX.out wr (Below.refl _ _)).1
                  have qa : a < n + 1 := by omega
                  have qb : b < n + 1 := by omega
                  have qa1 : (0 : Int) ≤ (a : Int) := by omega
                  have qb1 : (0 : Int) ≤ (b : Int) := by omega
                  have qa2 : decide (a < n + 1) = true := decide_eq_true qa
                  have qb2 : decide (b < n + 1) = true := decide_eq_true qb
                  have qa3 : a ≤ n := by omega
                  have qa4 : (a : Int) < (n : Int) + 1 := by omega
                  have qb4 : (b : Int) < (n : Int) + 1 := by omega
                  have qa5 : (a : Int) < ((n + 1 : Nat) : Int) := by omega
                  have qb5 : (b : Int) < ((n + 1 : Nat) : Int) := by omega
                  go_wp2
                  clear hln q0 eL ea
                  go_region_held3 (fun w' => w'.cell? ⟨W0.heap.size, a, none⟩ = some (.slice (some ⟨W0.heap.size + 1 + a, 0, none⟩) (n + 1) (n + 1))) (first | (go_keep; done) | (refine cell_setFar (HX.out _ ?_).1 (by omega); (repeat (first | (with_reducible first | exact Aside0.out (by assumption) | exact Below.refl _ _ | apply pw_below_drewN | apply below_drew1 | apply below_alloc))); done) | (refine (HX.out _ ?_).1; (repeat (first | (with_reducible first | exact Aside0.out (by assumption) | exact Below.refl _ _ | apply pw_below_drewN | apply below_drew1 | apply below_alloc))); done)) ((go_at_call 92; (with_reducible refine (HLK.out _ (by repeat (first | (with_reducible first | exact Below.refl _ _ | apply pw_below_drewN | apply below_drew1 | apply below_alloc)))).mono ?_); rintro e w' ⟨rfl, hb⟩; have HB := Aside0.mk hb; have hcell2 := (HX.out _ hb).2.1; have hfz := (HX.out _ hb).2.2; clear hb))
                  all_goals
                    have HS5 := Aside0.mk ((HS4.out.go HB.out).put hsep.out (show a ≤ n by omega) (b := b) (F i a b))
                    have eR := HR.out
                    clear hcell hcell2 hfz HX HLK HB HS4
                    go_wp2
                    go_roundw
                    case rel =>
                      refine ⟨b + 1, _, by omega, by omega, by go_num, HS5, ⟨fun t x y h1 h2 h3 => ?_⟩, ⟨fun x y h1 h2 h3 => ?_⟩, ⟨fun y h1 h2 => ?_⟩⟩
                      · simp only [eR, if_pos h1]; exact HV5.out t x y h1 h2 h3
                      · simp only [eR, if_neg (Nat.lt_irrefl i), if_neg (show ¬ (x = a ∧ y = b) by omega)]; exact HV6.out x y h1 h2 h3
                      · simp only [eR, if_neg (Nat.lt_irrefl i)]
                        by_cases e : y = b
                        · subst e; simp
                        · rw [if_neg (by omega)]; exact HV7.out y h1 (by omega)
                    case measure => simp [intOf] <;> omega
                · obtain rfl : b = n + 1 := by omega
                  have q3 : decide (n + 1 ≤ n) = false := decide_eq_false (by omega)
                  have HC5 : Aside0 (∀ x y, a ≤ x → x ≤ y → y ≤ n → V2 i x y = F i x y) := ⟨fun x y h1 h2 h3 => by
                    by_cases e : x = a
                    · subst e; exact HV7.out y h2 (by omega)
                    · exact HV6.out x y (by omega) h2 h3⟩
                  clear HV6 HV7
                  go_wp2
                  go_roundw
                  case rel => exact ⟨a, V2, by omega, by go_num, HS4, HV5, HC5⟩
                  case measure => simp [intOf] <;> omega
            · obtain rfl : c = 0 := by omega
              have q2 : decide ((0 : Int) ≤ ((0 : Nat) : Int) - 1) = false := decide_eq_false (by omega)
              go_wp2
              go_roundw
              case rel =>
                refine ⟨i + 1, Rs ++ [W0.heap.size], _, V1, by omega, by go_num, ⟨by simp [HR.out]⟩, HS3, ⟨fun t x y h1 h2 h3 => ?_⟩⟩
                by_cases e : t = i
                · subst e; exact HV4.out x y (by omega) h2 h3
                · exact HV3.out t x y (by omega) h2 h3
              case measure => simp [intOf] <;> omega
    · obtain rfl : i = p.length := by omega
      have q1 : decide (p.length < p.length) = false := decide_eq_false (by omega)
      go_wp2
      go_ret
      exact ⟨w1.heap.size, mkT Rs.length n V, rfl, HST1.out.ms (by omega) (Kd.C_below HC0.out HB1.out) HC1.out (Kd.C_below HC2.out HB1.out), mkT_dims _ _ _, by rw [mkT_len]; exact HR.out, fun t a b h1 h2 h3 => by rw [mkT_hv (by rw [HR.out]; exact h1) (by omega) h3]; exact HV.out t a b h1 h2 h3, HB1.out.trans (HST1.out.below.mono HB1.out.size)⟩
theorem lookF_nil (I : List Int → Int → Bool) (p : List S49) (parts : List (List Int)) (l : List Int) (V : Nat → Nat → Nat → Bool) (node a b : Nat) (h : (rd_T49 p (node : Int)).f0 = 1) : lookF I p parts l V node a b = decide (a = b) := by
  unfold lookF
  rw [if_pos h]
theorem lookF_set (I : List Int → Int → Bool) (p : List S49) (parts : List (List Int)) (l : List Int) (V : Nat → Nat → Nat → Bool) (node a b : Nat) (h : (rd_T49 p (node : Int)).f0 = 2) : lookF I p parts l V node a b = (if b = a + 1 then I (rd_T49 p (node : Int)).f1 (rd l (a : Int)) else false) := by
  unfold lookF
  rw [if_neg (by omega), if_pos h]
theorem lookF_or (I : List Int → Int → Bool) (p : List S49) (parts : List (List Int)) (l : List Int) (V : Nat → Nat → Nat → Bool) (node a b : Nat) (h : (rd_T49 p (node : Int)).f0 = 4) : lookF I p parts l V node a b = (V (kd parts node 0) a b || V (kd parts node 1) a b) := by
  unfold lookF
  rw [if_neg (by omega), if_neg (by omega), if_pos h]
theorem lookF_and (I : List Int → Int → Bool) (p : List S49) (parts : List (List Int)) (l : List Int) (V : Nat → Nat → Nat → Bool) (node a b : Nat) (h : (rd_T49 p (node : Int)).f0 = 5) : lookF I p parts l V node a b = (V (kd parts node 0) a b && V (kd parts node 1) a b) := by
  unfold lookF
  rw [if_neg (by omega), if_neg (by omega), if_neg (by omega), if_pos h]
theorem lookF_not (I : List Int → Int → Bool) (p : List S49) (parts : List (List Int)) (l : List Int) (V : Nat → Nat → Nat → Bool) (node a b : Nat) (h : (rd_T49 p (node : Int)).f0 = 7) : lookF I p parts l V node a b = (!V (kd parts node 0) a b) := by
  unfold lookF
  rw [if_neg (by omega), if_neg (by omega), if_neg (by omega), if_neg (by omega), if_pos h]
theorem lookF_star (I : List Int → Int → Bool) (p : List S49) (parts : List (List Int)) (l : List Int) (V : Nat → Nat → Nat → Bool) (node a b : Nat) (h : (rd_T49 p (node : Int)).f0 = 6) : lookF I p parts l V node a b = (if a = b then true else anyFT (a + 1) b fun m => V (kd parts node 0) a m && V node m b) := by
  unfold lookF
  rw [if_neg (by omega), if_neg (by omega), if_neg (by omega), if_neg (by omega), if_neg (by omega), if_pos h]
theorem lookF_cat (I : List Int → Int → Bool) (p : List S49) (parts : List (List Int)) (l : List Int) (V : Nat → Nat → Nat → Bool) (node a b : Nat) (h : (rd_T49 p (node : Int)).f0 = 3) : lookF I p parts l V node a b = (anyFT a b fun m => V (kd parts node 0) a m && V (kd parts node 1) m b) := by
  unfold lookF
  rw [if_neg (by omega), if_neg (by omega), if_neg (by omega), if_neg (by omega), if_neg (by omega), if_neg (by omega)]
theorem lookF_congr {I : List Int → Int → Bool} {p : List S49} {parts : List (List Int)} {l : List Int} {V V' : Nat → Nat → Nat → Bool} {node a b : Nat} (hK : KidsOk p parts node) (hab : a ≤ b) (h0 : ∀ k i j, k < node → a ≤ i → i ≤ j → j ≤ b → V k i j = V' k i j) (h1 : ∀ i, a < i → i ≤ b → V node i b = V' node i b) : lookF I p parts l V node a b = lookF I p parts l V' node a b := by
  obtain ⟨hop, hkk⟩ := hK
  have k0 : ∀ i, i < (parts.getD node []).length → kd parts node i < node := fun i hi => (kid_at hkk hi).2
  rcases hop with h | h | ⟨h | h, hk⟩ | ⟨h | h | h, hk⟩
  · rw [lookF_nil _ _ _ _ _ _ _ _ h, lookF_nil _ _ _ _ _ _ _ _ h]
  · rw [lookF_set _ _ _ _ _ _ _ _ h, lookF_set _ _ _ _ _ _ _ _ h]
  · rw [lookF_star _ _ _ _ _ _ _ _ h, lookF_star _ _ _ _ _ _ _ _ h]
    by_cases e : a = b
    · rw [if_pos e, if_pos e]
    · rw [if_neg e, if_neg e]
      exact anyFT_congr fun m g1 g2 => by rw [h0 _ a m (k0 0 (by omega)) (Nat.le_refl _) (by omega) g2, h1 m (by omega) g2]
  · rw [lookF_not _ _ _ _ _ _ _ _ h, lookF_not _ _ _ _ _ _ _ _ h, h0 _ a b (k0 0 (by omega)) (Nat.le_refl _) hab (Nat.le_refl _)]
  · rw [lookF_cat _ _ _ _ _ _ _ _ h, lookF_cat _ _ _ _ _ _ _ _ h]
    exact anyFT_congr fun m g1 g2 => by rw [h0 _ a m (k0 0 (by omega)) (Nat.le_refl _) g1 g2, h0 _ m b (k0 1 (by omega)) g1 g2 (Nat.le_refl _)]
  · rw [lookF_or _ _ _ _ _ _ _ _ h, lookF_or _ _ _ _ _ _ _ _ h, h0 _ a b (k0 0 (by omega)) (Nat.le_refl _) hab (Nat.le_refl _), h0 _ a b (k0 1 (by omega)) (Nat.le_refl _) hab (Nat.le_refl _)]
  · rw [lookF_and _ _ _ _ _ _ _ _ h, lookF_and _ _ _ _ _ _ _ _ h, h0 _ a b (k0 0 (by omega)) (Nat.le_refl _) hab (Nat.le_refl _), h0 _ a b (k0 1 (by omega)) (Nat.le_refl _) hab (Nat.le_refl _)]
/-- What a node tells, by fuel. -/
def Fm (I : List Int → Int → Bool) (p : List S49) (parts : List (List Int)) (l : List Int) : Nat → Nat → Nat → Nat → Bool
  | 0, _, _, _ => false
  | f + 1, node, a, b => lookF I p parts l (Fm I p parts l f) node a b
theorem Fm_fuel {I : List Int → Int → Bool} {p : List S49} {parts : List (List Int)} {l : List Int} {n : Nat} : ∀ (f f' node a b : Nat), node * (n + 1) + (b - a) < f → node * (n + 1) + (b - a) < f' → (∀ t, t ≤ node → KidsOk p parts t) → a ≤ b → b ≤ n → Fm I p parts l f node a b = Fm I p parts l f' node a b
  | 0, _, _, _, _, h, _, _, _, _ => by omega
  | _ + 1, 0, _, _, _, _, h, _, _, _ => by omega
  | f + 1, f' + 1, node, a, b, h, h', hK, hab, hb => by
    show lookF I p parts l (Fm I p parts l f) node a b = lookF I p parts l (Fm I p parts l f') node a b
    refine lookF_congr (hK node (Nat.le_refl _)) hab (fun k i j g1 g2 g3 g4 => ?_) (fun i g1 g2 => ?_)
    · have hm : (k + 1) * (n + 1) ≤ node * (n + 1) := Nat.mul_le_mul_right _ (by omega)
      rw [Nat.succ_mul] at hm
      exact Fm_fuel (n := n) f f' k i j (by omega) (by omega) (fun t ht => hK t (by omega)) g3 (by omega)
    · exact Fm_fuel (n := n) f f' node i b (by omega) (by omega) hK g2 hb
/-- What a node tells of a part of a list. -/
def reF (I : List Int → Int → Bool) (p : List S49) (parts : List (List Int)) (l : List Int) (node a b : Nat) : Bool := Fm I p parts l (node * (l.length + 1) + (b - a) + 1) node a b
theorem reF_step {I : List Int → Int → Bool} {p : List S49} {parts : List (List Int)} {l : List Int} {node a b : Nat} (hK : ∀ t, t ≤ node → KidsOk p parts t) (hab : a ≤ b) (hb : b ≤ l.length) : lookF I p parts l (reF I p parts l) node a b = reF I p parts l node a b := by
  show _ = lookF I p parts l (Fm I p parts l (node * (l.length + 1) + (b - a))) node a b
  refine lookF_congr (hK node (Nat.le_refl _)) hab (fun k i j g1 g2 g3 g4 => ?_) (fun i g1 g2 => ?_)
  · have hm : (k + 1) * (l.length + 1) ≤ node * (l.length + 1) := Nat.mul_le_mul_right _ (by omega)
    rw [Nat.succ_mul] at hm
    exact Fm_fuel (n := l.length) _ _ k i j (by omega) (by omega) (fun t ht => hK t (by omega)) g3 (by omega)
  · exact Fm_fuel (n := l.length) _ _ node i b (by omega) (by omega) hK g2 hb
open Classical in
/-- Is a number in a set: what inSet answers. -/
noncomputable def inV (s : List Int) (x : Int) : Bool := if h : ∃ r k, impl_inSet.f k s x = some r then Classical.choose h else false
theorem inV_at {s : List Int} {x : Int} (h : ∃ r k, impl_inSet.f k s x = some r) : ∃ k, impl_inSet.f k s x = some (inV s x) := by
  unfold inV
  rw [dif_pos h]
  exact Classical.choose_spec h
/-- What the matcher asks of a pattern and its parts. -/
def MOk (p : List S49) (parts : List (List Int)) : Prop := parts.length = p.length ∧ p.length ≤ 1000 ∧ 0 < p.length ∧ (∀ node, node < p.length → KidsOk p parts node) ∧ ∀ node, node < p.length → (rd_T49 p (node : Int)).f0 = 2 → ∀ x, ∃ r k, impl_inSet.f k (rd_T49 p (node : Int)).f1 x = some r
open Classical in
/-- What the whole pattern tells of the whole list. -/
noncomputable def reM (p : List S49) (parts : List (List Int)) (l : List Int) : Option Bool := if MOk p parts ∧ l.length ≤ 1000 then some (reF inV p parts l (p.length - 1) 0 l.length) else none
theorem match_has (k : Nat) (A0 : Option Addr) (c0 : Nat) (p : List S49) (A2 : Option Addr) (c2 : Nat) (l : List Int) (parts : List (List Int)) (ok : Bool) (r : Bool) (w : World) (hp : Kd.C k49 w A0 p.length p) (hc0 : p.length ≤ c0) (hl : Kd.C (Kd.int .i64) w A2 l.length l) (hc2 : l.length ≤ c2) (h : impl_parts.f k p = some (parts, ok)) (hr : reM p parts l = some r) :
    Calls Try.prog 63 #[.slice A0 p.length c0, .slice A2 l.length c2] w fun e w' => ∃ g : Nat, e = .returned (.pointer (some ⟨g, 0, none⟩)) ∧ Below w.heap.size w w' ∧ Calls Try.prog 64 #[.pointer (some ⟨g, 0, none⟩), .int .i64 ((p.length : Int) - 1), .int .i64 0, .int .i64 (l.length : Int)] w' fun e w'' => e = .returned (.bool r) ∧ w' = w'' := by
  unfold reM at hr
  split at hr
  · rename_i hM
    obtain rfl := Option.some.inj hr
    obtain ⟨⟨h1, h2, h3, h4, h5⟩, h6⟩ := hM
    refine (match_walk inV (reF inV p parts l) k A0 c0 p A2 c2 l parts ok l.length w hp hc0 hl hc2 rfl h6 h2 h (fun node hn hf x => inV_at (h5 node hn hf x)) h1 h4 (fun node a b hn hab hb => reF_step (fun t ht => h4 t (by omega)) hab hb)).mono ?_
    rintro e w' ⟨g, table, rfl, hM, hD, hlen, hv, hb⟩
    refine ⟨g, rfl, hb, ?_⟩
    have := mhas.calls g p parts l table l.length (p.length - 1) 0 l.length w' hM hD (by omega) (Nat.zero_le _) (Nat.le_refl _)
    rw [hv _ _ _ (by omega) (Nat.zero_le _) (Nat.le_refl _), show ((p.length - 1 : Nat) : Int) = (p.length : Int) - 1 from by omega] at this
    exact this
  · cases hr
theorem reM_bounds {p : List S49} {parts : List (List Int)} {l : List Int} {r : Bool} (h : reM p parts l = some r) : 0 < p.length ∧ p.length ≤ 1000 ∧ l.length ≤ 1000 := by
  unfold reM at h
  split at h
  · rename_i hM
    exact ⟨hM.1.2.2.1, hM.1.2.1, hM.2⟩
  · cases h

end Go.Proofs.Ytlmpeaelpchokaa.HFnExactMatchesRe
