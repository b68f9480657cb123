/- Written by wip/pr.py of this session, for the law FnExactDerivRe: Lean functions with the answers of the program's, and the proofs of that; where the kit's print has no word, by hand. -/
import Derived.Test.YtlmpeaelpchokaaHFnExactDerivRex0
import Derived.Test.YtlmpeaelpchokaaHFnExactDerivRex8
import Derived.Test.YtlmpeaelpchokaaHFnExactDerivRex9
import Derived.Test.YtlmpeaelpchokaaHFnExactDerivRex11
import Derived.Test.YtlmpeaelpchokaaHFnExactDerivRex12
noncomputable section
namespace Go.Proofs.Ytlmpeaelpchokaa.HFnExactDerivRe
set_option maxHeartbeats 8000000
set_option maxRecDepth 100000
open Go.RowKit Go.Proofs.YtlmpeaelpchokaaW.PrintWords Go.Proofs.YtlmpeaelpchokaaW.PrintLast Go.Proofs.YtlmpeaelpchokaaW.PrintMore

set_option linter.unusedVariables false
set_option linter.unusedSimpArgs false

/-- n + 1 cells. -/
def arrOf (n : Nat) (f : Nat → Value) : Array Value := ((List.range (n + 1)).map f).toArray
theorem arr_get {n : Nat} {f : Nat → Value} {k : Nat} (h : k ≤ n) : (arrOf n f)[k]? = some (f k) := by
 unfold arrOf
 rw [List.getElem?_toArray, List.getElem?_map, List.getElem?_range (by omega)]; rfl
theorem arr_set {n : Nat} {f : Nat → Value} {i : Nat} (u : Value) : (arrOf n f).setIfInBounds i u = arrOf n (fun k => if k = i then u else f k) := by
 unfold arrOf
 rw [List.setIfInBounds_toArray]
 congr 1
 apply List.ext_getElem?
 intro j
 rw [List.getElem?_set]
 by_cases e : i = j
 ·subst e
  rw [if_pos rfl]
  by_cases h : i < n + 1
  ·rw [if_pos (by simpa using h), List.getElem?_map, List.getElem?_range h]; simp
  ·rw [if_neg (by simpa using h), List.getElem?_map, List.getElem?_eq_none (by simp; omega)]; rfl
 ·rw [if_neg e, List.getElem?_map, List.getElem?_map]
  by_cases h : j < n + 1
  ·rw [List.getElem?_range h]; simp [show ¬ j = i from fun g => e g.symm]
  ·rw [List.getElem?_eq_none (by simp; omega)]; rfl
theorem made_arr (n : Nat) (z : Value) : madeCells #[z] (n + 1) = arrOf n (fun _ => z) := by
 unfold madeCells arrOf
 apply Array.ext'
 simp [Nat.mod_one]
/-- A block of n + 1 cells. -/
def BlkF (W : World) (b t n : Nat) (f : Nat → Value) : Prop := W.heap[b]? = some (.cells (arrOf n f) t (0, 0))
theorem BlkF.put {W : World} {b t n : Nat} {f : Nat → Value} (h : BlkF W b t n f) (i : Nat) (u : Value) : BlkF (W.setCell ⟨b, i, none⟩ u) b t n (fun k => if k = i then u else f k) := blk_put h i u (arr_set u)
theorem BlkF.congr {W : World} {b t n : Nat} {f g : Nat → Value} (h : BlkF W b t n f) (e : ∀ k, k ≤ n → f k = g k) : BlkF W b t n g := by
 unfold BlkF at h ⊢
 rw [h]
 have : arrOf n f = arrOf n g := by
  unfold arrOf
  congr 1
  exact List.map_congr_left fun k hk => e k (by have := List.mem_range.1 hk; omega)
 rw [this]
theorem BlkF.lt {W : World} {b t n : Nat} {f : Nat → Value} (h : BlkF W b t n f) : b < W.heap.size := blk_lt h
theorem BlkF.cell {W : World} {b t n : Nat} {f : Nat → Value} (h : BlkF W b t n f) {k : Nat} (hk : k ≤ n) : W.cell? ⟨b, k, none⟩ = some (f k) := (blk_cell h k).trans (arr_get hk)
theorem BlkF.ints {W : World} {b n : Nat} {v : Nat → Bool} (hn : n ≤ 1000000) (h : BlkF W b 4 n (fun k => .bool (v k))) : Kd.C Kd.bool W (some ⟨b, 0, none⟩) (n + 1) ((List.range (n + 1)).map v) := by
 refine ⟨by simp, by omega, fun _ => ⟨_, rfl, fun j p hj => ⟨[.bool p], rfl, rfl, fun i u hu => ?_⟩⟩⟩
 obtain ⟨hl, hp⟩ := List.getElem?_eq_some_iff.1 hj
 have hjn : j < n + 1 := by simpa using hl
 rw [List.getElem_map, List.getElem_range] at hp
 match i, hu with
 | 0, hu =>
  have hu' : (Value.bool p) = u := Option.some.inj hu
  subst hu'
  have := h.cell (k := j) (by omega)
  rw [hp] at this
  rw [show j * Kd.bool.sz + 0 = j from Nat.mul_one j]
  unfold Addr.add
  split
  ·rename_i e; rw [e] at this; exact this
  ·rw [Nat.zero_add]; exact this
 | i + 1, hu => simp at hu
/-- A node's rows: the first block holds them, the next n + 1 are them. -/
def NodeAt (W : World) (R n : Nat) (v : Nat → Nat → Bool) : Prop :=
 BlkF W R 81 n (fun j => .slice (some ⟨R + 1 + j, 0, none⟩) (n + 1) (n + 1)) ∧ ∀ j, j ≤ n → BlkF W (R + 1 + j) 4 n (fun k => .bool (v j k))
theorem NodeAt.keep {W W' : World} {R n : Nat} {v : Nat → Nat → Bool} (h : NodeAt W R n v) (hk : ∀ b, R ≤ b → b ≤ R + 1 + n → W'.heap[b]? = W.heap[b]?) : NodeAt W' R n v :=
 ⟨(hk R (by omega) (by omega)).trans h.1, fun j hj => (hk (R + 1 + j) (by omega) (by omega)).trans (h.2 j hj)⟩
theorem NodeAt.lt {W : World} {R n : Nat} {v : Nat → Nat → Bool} (h : NodeAt W R n v) : R + 1 + n < W.heap.size := (h.2 n (Nat.le_refl _)).lt
theorem NodeAt.below {W W' : World} {R n : Nat} {v : Nat → Nat → Bool} (h : NodeAt W R n v) (hb : Below W.heap.size W W') : NodeAt W' R n v :=
 h.keep fun b _ h2 => hb.block b (by have := h.lt; omega)
theorem NodeAt.far {W : World} {R n : Nat} {v : Nat → Nat → Bool} (h : NodeAt W R n v) {p : Addr} (hp : p.block < R ∨ R + 1 + n < p.block) (u : Value) : NodeAt (W.setCell p u) R n v :=
 h.keep fun b h1 h2 => Below.heap_setCell W p u b (by omega)
theorem NodeAt.put {W : World} {R n : Nat} {v : Nat → Nat → Bool} (h : NodeAt W R n v) {a b : Nat} (ha : a ≤ n) (x : Bool) : NodeAt (W.setCell ⟨R + 1 + a, b, none⟩ (.bool x)) R n (fun i j => if i = a ∧ j = b then x else v i j) := by
 refine ⟨blk_far h.1 (by show R ≠ R + 1 + a; omega) _, fun j hj => ?_⟩
 by_cases e : j = a
 ·subst e
  exact ((h.2 j hj).put b (.bool x)).congr fun k _ => by
   by_cases g : k = b
   ·simp [g]
   ·simp [g]
 ·exact BlkF.congr (f := fun k => .bool (v j k)) (blk_far (h.2 j hj) (by show R + 1 + j ≠ R + 1 + a; omega) _) fun k _ => by simp [e]
theorem NodeAt.congr {W : World} {R n : Nat} {v v' : Nat → Nat → Bool} (h : NodeAt W R n v) (e : ∀ a b, a ≤ n → b ≤ n → v a b = v' a b) : NodeAt W R n v' :=
 ⟨h.1, fun j hj => (h.2 j hj).congr fun k hk => by rw [e j k hj hk]⟩
theorem NodeAt.rows {W : World} {R n : Nat} {v : Nat → Nat → Bool} (hn : n ≤ 1000000) (h : NodeAt W R n v) : Kd.C (Kd.slice 4 Kd.bool) W (some ⟨R, 0, none⟩) (n + 1) ((List.range (n + 1)).map fun j => (List.range (n + 1)).map (v j)) := by
 refine ⟨by simp, by omega, fun _ => ⟨_, rfl, fun j p hj => ⟨[.slice (some ⟨R + 1 + j, 0, none⟩) (n + 1) (n + 1)], rfl, ?_, fun i u hu => ?_⟩⟩⟩
 all_goals
  obtain ⟨hl, hp⟩ := List.getElem?_eq_some_iff.1 hj
  have hjn : j < n + 1 := by simpa using hl
  rw [List.getElem_map, List.getElem_range] at hp
 ·subst hp
  refine ⟨some ⟨R + 1 + j, 0, none⟩, n + 1, by simp, by simp, ?_⟩
  have := (h.2 j (by omega)).ints hn
  simpa using this
 ·match i, hu with
  | 0, hu =>
   have hu' := Option.some.inj hu
   subst hu'
   have := h.1.cell (k := j) (by omega)
   rw [show j * (Kd.slice 4 Kd.bool).sz + 0 = j from Nat.mul_one j]
   unfold Addr.add
   split
   ·rename_i e; rw [e] at this ⊢; exact this
   ·rw [Nat.zero_add]; exact this
  | i + 1, hu => simp at hu
/-- The table as lists. -/
def mkT (m n : Nat) (V : Nat → Nat → Nat → Bool) : List (List (List Bool)) := (List.range m).map fun t => (List.range (n + 1)).map fun a => (List.range (n + 1)).map (V t a)
theorem mkT_len (m n : Nat) (V : Nat → Nat → Nat → Bool) : (mkT m n V).length = m := by simp [mkT]
theorem mkT_at {m n : Nat} {V : Nat → Nat → Nat → Bool} {t : Nat} (h : t < m) : (mkT m n V).getD t [] = (List.range (n + 1)).map fun a => (List.range (n + 1)).map (V t a) := by
 unfold mkT
 rw [List.getD_eq_getElem?_getD, List.getElem?_map, List.getElem?_range h]; rfl
theorem mkT_row {n : Nat} {v : Nat → Nat → Bool} {a : Nat} (h : a ≤ n) : ((List.range (n + 1)).map fun a => (List.range (n + 1)).map (v a)).getD a [] = (List.range (n + 1)).map (v a) := by
 rw [List.getD_eq_getElem?_getD, List.getElem?_map, List.getElem?_range (by omega)]; rfl
theorem mkT_dims (m n : Nat) (V : Nat → Nat → Nat → Bool) : Dims (mkT m n V) n := by
 intro t ht
 rw [mkT_len] at ht
 rw [mkT_at ht]
 exact ⟨by simp, fun b hb => by rw [mkT_row hb]; simp⟩
theorem mkT_hv {m n : Nat} {V : Nat → Nat → Nat → Bool} {t a b : Nat} (ht : t < m) (ha : a ≤ n) (hb : b ≤ n) : mhv (mkT m n V) t a b = V t a b := by
 unfold mhv
 rw [mkT_at ht, mkT_row ha, List.getD_eq_getElem?_getD, List.getElem?_map, List.getElem?_range (by omega)]; rfl
/-- A node's rows as one value. -/
def encR (n : Nat) (R : Nat) : Value := .slice (some ⟨R, 0, none⟩) (n + 1) (n + 1)
theorem table_C {W : World} {n : Nat} (hn : n ≤ 1000000) {A : Option Addr} {Rs : List Nat} {V : Nat → Nat → Nat → Bool} {h1 : ∀ x, (encR n x).oneCell' = true} (hT : Kd.C (Kd.scalar (encR n) h1) W A Rs.length Rs) (hN : ∀ t, t < Rs.length → NodeAt W (Rs.getD t 0) n (V t)) :
  Kd.C (Kd.slice 81 (Kd.slice 4 Kd.bool)) W A (mkT Rs.length n V).length (mkT Rs.length n V) := by
 rw [mkT_len]
 refine ⟨mkT_len _ _ _, hT.2.1, fun hp => ?_⟩
 obtain ⟨ad, e, hc⟩ := hT.2.2 hp
 refine ⟨ad, e, fun j p hj => ?_⟩
 obtain ⟨hl, hp⟩ := List.getElem?_eq_some_iff.1 hj
 rw [mkT_len] at hl
 have hp' : p = (List.range (n + 1)).map fun a => (List.range (n + 1)).map (V j a) := by
  rw [← mkT_at (n := n) (V := V) hl, List.getD_eq_getElem?_getD, hj]; rfl
 obtain ⟨c, hcs, hcK, hcell⟩ := hc j _ (List.getElem?_eq_getElem hl)
 have hcK' : c = [encR n Rs[j]] := hcK
 subst hcK'
 refine ⟨_, rfl, ⟨some ⟨Rs[j], 0, none⟩, n + 1, ?_, ?_, ?_⟩, hcell⟩
 ·rw [hp']; simp [encR]
 ·rw [hp']; simp
 ·have := (hN j hl).rows hn
  rw [hp']
  rw [show Rs.getD j 0 = Rs[j] from by rw [List.getD_eq_getElem?_getD, List.getElem?_eq_getElem hl]; rfl] at this
  simpa using this
theorem encR_one (n : Nat) : ∀ x, (encR n x).oneCell' = true := fun _ => rfl
theorem info81m : (Try.prog.info? 81).map (fun i => (i.zero, i.size, i.bytes)) = some (some (.slice none 0 0), 1, 24) := by kernel_rfl
theorem info4m : (Try.prog.info? 4).map (fun i => (i.zero, i.size, i.bytes)) = some (some (.bool false), 1, 1) := by kernel_rfl
theorem und82m : Try.prog.underlying 82 = some (.slice 79) := by kernel_rfl
theorem info79m : (Try.prog.info? 79).map (fun i => (i.zero, i.size, i.bytes)) = some (some (.slice none 0 0), 1, 24) := by kernel_rfl
theorem make79 (n : Nat) (hn : n ≤ 1000000) (W : World) : (Instr.makeSlice 79 (.int .i64 ((n : Int) + 1)) (.int .i64 ((n : Int) + 1))).run Try.prog W = .ok (.slice (some ⟨W.heap.size, 0, none⟩) (n + 1) (n + 1)) (W.alloc (.cells (arrOf n fun _ => .slice none 0 0) 81)) := by
 obtain ⟨i, hi, hz, hs, hb⟩ := info_parts info81m
 have := run_makeSlice (P := Try.prog) W 79 81 i _ Try.underlying79 hi hz .i64 .i64 ((n : Int) + 1) ((n : Int) + 1) (by omega) (by omega) (by rw [hs]; omega) (by rw [hb]; omega) (by omega)
 rw [hs, show ((n : Int) + 1).toNat = n + 1 from by omega, Nat.mul_one, show (Value.slice none 0 0).cells = #[.slice none 0 0] from rfl, made_arr] at this
 exact this
theorem make81 (n : Nat) (hn : n ≤ 1000000) (W : World) : (Instr.makeSlice 81 (.int .i64 ((n : Int) + 1)) (.int .i64 ((n : Int) + 1))).run Try.prog W = .ok (.slice (some ⟨W.heap.size, 0, none⟩) (n + 1) (n + 1)) (W.alloc (.cells (arrOf n fun _ => .bool false) 4)) := by
 obtain ⟨i, hi, hz, hs, hb⟩ := info_parts info4m
 have := run_makeSlice (P := Try.prog) W 81 4 i _ Try.underlying81 hi hz .i64 .i64 ((n : Int) + 1) ((n : Int) + 1) (by omega) (by omega) (by rw [hs]; omega) (by rw [hb]; omega) (by omega)
 rw [hs, show ((n : Int) + 1).toNat = n + 1 from by omega, Nat.mul_one, show (Value.bool false).cells = #[.bool false] from rfl, made_arr] at this
 exact this
/-- What holds of the matcher at block g while nodes are looked at. -/
structure St (w1 W : World) (p : List S49) (A0 : Option Addr) (c0 : Nat) (parts : List (List Int)) (A1 : Option Addr) (c1 : Nat) (l : List Int) (A2 : Option Addr) (c2 n : Nat) (Rs : List Nat) (vt : Value) (V : Nat → Nat → Nat → Bool) : Prop where
 below : Below w1.heap.size w1 W
 blk : W.heap[w1.heap.size]? = some (.cells #[.slice A0 p.length c0, .slice A1 parts.length c1, .slice A2 l.length c2, vt] 84 (0, 0))
 row : Kd.R (Kd.scalar (encR n) (encR_one n)) 79 W w1.heap.size (fun b => b ≠ w1.heap.size ∧ ∀ R ∈ Rs, b < R ∨ R + 1 + n < b) vt Rs
 node : ∀ t, t < Rs.length → NodeAt W (Rs.getD t 0) n (V t)
 above : ∀ R ∈ Rs, w1.heap.size < R
/-- The new rows of a node, j of them made. -/
structure Cur (wr W : World) (n j : Nat) : Prop where
 below : Below wr.heap.size wr W
 size : W.heap.size = wr.heap.size + 1 + j
 rows : BlkF W wr.heap.size 81 n (fun t => if t < j then .slice (some ⟨wr.heap.size + 1 + t, 0, none⟩) (n + 1) (n + 1) else .slice none 0 0)
 cells : ∀ t, t < j → BlkF W (wr.heap.size + 1 + t) 4 n (fun _ => .bool false)
theorem Cur.start {wr : World} {n : Nat} : Cur wr (wr.alloc (.cells (arrOf n fun _ => .slice none 0 0) 81)) n 0 := by
 refine ⟨below_alloc (Below.refl _ _) _, by simp, ?_, fun t ht => by omega⟩
 exact BlkF.congr (f := fun _ => .slice none 0 0) (blk_new wr _) fun k _ => by simp
theorem Cur.step {wr W : World} {n j : Nat} (h : Cur wr W n j) (hj : j ≤ n) : Cur wr ((W.alloc (.cells (arrOf n fun _ => .bool false) 4)).setCell ⟨wr.heap.size, j, none⟩ (.slice (some ⟨W.heap.size, 0, none⟩) (n + 1) (n + 1))) n (j + 1) := by
 obtain ⟨h1, h2, h3, h4⟩ := h
 refine ⟨below_set (below_alloc h1 _) (Nat.le_refl _), by simp [World.setCell, h2]; omega, ?_, fun t ht => ?_⟩
 ·refine ((BlkF.put (f := _) (show BlkF (W.alloc _) wr.heap.size 81 n _ from blk_alloc h3 _) j _)).congr fun k _ => ?_
  by_cases e : k = j
  ·subst e; simp [h2]
  ·rw [if_neg e]
   by_cases g : k < j
   ·rw [if_pos g, if_pos (by omega)]
   ·rw [if_neg g, if_neg (by omega)]
 ·by_cases e : t = j
  ·subst e
   rw [← h2]
   exact blk_far (blk_new W _) (by show W.heap.size ≠ wr.heap.size; omega) _
  ·exact blk_far (blk_alloc (h4 t (by omega)) _) (by show wr.heap.size + 1 + t ≠ wr.heap.size; omega) _
theorem Cur.done {wr W : World} {n : Nat} (h : Cur wr W n (n + 1)) : NodeAt W wr.heap.size n (fun _ _ => false) :=
 ⟨h.rows.congr fun k hk => by rw [if_pos (by omega)], fun j hj => h.cells j (by omega)⟩
theorem Cur.step2 {wr W : World} {n j : Nat} (h : Cur wr W n j) (hj : j ≤ n) : Cur wr ((W.setCell ⟨wr.heap.size, j, none⟩ (.slice (some ⟨W.heap.size, 0, none⟩) (n + 1) (n + 1))).alloc (.cells (arrOf n fun _ => .bool false) 4)) n (j + 1) := by
 obtain ⟨h1, h2, h3, h4⟩ := h
 have hz : (W.setCell ⟨wr.heap.size, j, none⟩ (.slice (some ⟨W.heap.size, 0, none⟩) (n + 1) (n + 1))).heap.size = W.heap.size := by simp [World.setCell]
 refine ⟨below_alloc (below_set h1 (Nat.le_refl _)) _, by simp [World.setCell, h2]; omega, ?_, fun t ht => ?_⟩
 ·refine BlkF.congr (f := _) (show BlkF (World.alloc _ _) wr.heap.size 81 n _ from blk_alloc (h3.put j _) _) fun k _ => ?_
  by_cases e : k = j
  ·subst e; simp [h2]
  ·rw [if_neg e]
   by_cases g : k < j
   ·rw [if_pos g, if_pos (by omega)]
   ·rw [if_neg g, if_neg (by omega)]
 ·by_cases e : t = j
  ·have e2 : wr.heap.size + 1 + t = (W.setCell ⟨wr.heap.size, j, none⟩ (.slice (some ⟨W.heap.size, 0, none⟩) (n + 1) (n + 1))).heap.size := by rw [hz, h2, e]
   show (World.alloc _ _).heap[wr.heap.size + 1 + t]? = _
   rw [e2]
   exact blk_new _ _
  ·exact blk_alloc (blk_far (h4 t (by omega)) (by show wr.heap.size + 1 + t ≠ wr.heap.size; omega) _) _
theorem St.go {w1 W W' : World} {p : List S49} {A0 : Option Addr} {c0 : Nat} {parts : List (List Int)} {A1 : Option Addr} {c1 : Nat} {l : List Int} {A2 : Option Addr} {c2 n : Nat} {Rs : List Nat} {vt : Value} {V : Nat → Nat → Nat → Bool} (h : St w1 W p A0 c0 parts A1 c1 l A2 c2 n Rs vt V) (hb : Below W.heap.size W W') : St w1 W' p A0 c0 parts A1 c1 l A2 c2 n Rs vt V :=
 ⟨h.below.trans (hb.mono h.below.size), blk_below h.blk hb, Kd.R_below h.row hb, fun t ht => (h.node t ht).below hb, h.above⟩
theorem getD_mem {Rs : List Nat} {t : Nat} (h : t < Rs.length) : Rs.getD t 0 ∈ Rs := by
 rw [List.getD_eq_getElem?_getD, List.getElem?_eq_getElem h]; exact List.getElem_mem _
theorem mem_getD {Rs : List Nat} {R : Nat} (h : R ∈ Rs) : ∃ t, t < Rs.length ∧ Rs.getD t 0 = R := by
 obtain ⟨t, ht, e⟩ := List.getElem_of_mem h
 exact ⟨t, ht, by rw [List.getD_eq_getElem?_getD, List.getElem?_eq_getElem ht, Option.getD_some, e]⟩
/-- A node's rows behind the others. -/
theorem St.append {w1 W0 W w6 : World} {p : List S49} {A0 : Option Addr} {c0 : Nat} {parts : List (List Int)} {A1 : Option Addr} {c1 : Nat} {l : List Int} {A2 : Option Addr} {c2 n : Nat} {Rs : List Nat} {vt v4 : Value} {V : Nat → Nat → Nat → Bool} (h : St w1 W0 p A0 c0 parts A1 c1 l A2 c2 n Rs vt V) (hb0 : Below W0.heap.size W0 W) (hN : NodeAt W W0.heap.size n (fun _ _ => false))
  (ho : Kd.R (Kd.scalar (encR n) (encR_one n)) 79 w6 w1.heap.size (fun b => b ≠ w1.heap.size ∧ ∀ R ∈ Rs ++ [W0.heap.size], b < R ∨ R + 1 + n < b) v4 (Rs ++ [W0.heap.size])) (hb : Below w1.heap.size w1 w6) (hg : W.grownBy w6 vt.ownBlock) :
  w6.heap[w1.heap.size]? = some (.cells #[.slice A0 p.length c0, .slice A1 parts.length c1, .slice A2 l.length c2, vt] 84 (0, 0)) ∧ St w1 (w6.setCell ⟨w1.heap.size, 3, none⟩ v4) p A0 c0 parts A1 c1 l A2 c2 n (Rs ++ [W0.heap.size]) v4 (fun t => if t < Rs.length then V t else fun _ _ => false) := by
 have h' := h.go hb0
 have hlt0 : ∀ R ∈ Rs, R + 1 + n < W0.heap.size := fun R hR => by
  obtain ⟨t, ht, e⟩ := mem_getD hR
  have := (h.node t ht).lt
  rw [e] at this; exact this
 have hrow := Kd.R_bound h.row
 have hown : ∀ b, vt.ownBlock = some b → b < W0.heap.size ∧ b ≠ w1.heap.size ∧ ∀ R ∈ Rs, b < R ∨ R + 1 + n < b := fun b e => by
  have := hrow.1 b e
  exact ⟨this.2.2.1, this.1⟩
 have hkeep : ∀ b, b < W.heap.size → (vt.ownBlock = some b → False) → w6.heap[b]? = W.heap[b]? := fun b hb1 hb2 => hg.block b hb1 (fun e => hb2 e.symm)
 have hw1 : w1.heap.size < W.heap.size := blk_lt h'.blk
 have hblk : w6.heap[w1.heap.size]? = some (.cells #[.slice A0 p.length c0, .slice A1 parts.length c1, .slice A2 l.length c2, vt] 84 (0, 0)) := (hkeep _ hw1 (fun e => (hown _ e).2.1 rfl)).trans h'.blk
 have hgR : ∀ R ∈ Rs ++ [W0.heap.size], w1.heap.size < R := fun R hR => by
  rcases List.mem_append.1 hR with hR | hR
  ·exact h.above R hR
  ·rw [List.mem_singleton.1 hR]; exact blk_lt h.blk
 refine ⟨hblk, ⟨below_set hb (Nat.le_refl _), blk_put hblk 3 v4 rfl, Kd.R_far (p := ⟨w1.heap.size, 3, none⟩) ho (fun _ hk => hk.1) v4, fun t ht => ?_, hgR⟩⟩
 rw [List.length_append, List.length_singleton] at ht
 by_cases e : t < Rs.length
 ·have e1 : (Rs ++ [W0.heap.size]).getD t 0 = Rs.getD t 0 := by rw [List.getD_eq_getElem?_getD, List.getElem?_append_left e, ← List.getD_eq_getElem?_getD]
  rw [e1]
  simp only [if_pos e]
  have hn := h'.node t e
  have hl := hlt0 _ (getD_mem e)
  refine (hn.keep (W' := w6) fun b g1 g2 => hkeep b (by have := hn.lt; omega) (fun q => ?_)).far (p := ⟨w1.heap.size, 3, none⟩) (Or.inl (h.above _ (getD_mem e))) v4
  have := (hown b q).2.2 _ (getD_mem e)
  omega
 ·have e2 : t = Rs.length := by omega
  subst e2
  have e1 : (Rs ++ [W0.heap.size]).getD Rs.length 0 = W0.heap.size := by rw [List.getD_eq_getElem?_getD, List.getElem?_append_right (Nat.le_refl _)]; simp
  rw [e1]
  simp only [if_neg (Nat.lt_irrefl _)]
  refine (hN.keep (W' := w6) fun b g1 g2 => hkeep b (by have := hN.lt; omega) (fun q => ?_)).far (p := ⟨w1.heap.size, 3, none⟩) (Or.inl (blk_lt h.blk)) v4
  have := (hown b q).1
  omega
/-- A value of the last node told. -/
theorem St.put {w1 W : World} {p : List S49} {A0 : Option Addr} {c0 : Nat} {parts : List (List Int)} {A1 : Option Addr} {c1 : Nat} {l : List Int} {A2 : Option Addr} {c2 n : Nat} {Rs : List Nat} {R : Nat} {vt : Value} {V : Nat → Nat → Nat → Bool} (h : St w1 W p A0 c0 parts A1 c1 l A2 c2 n (Rs ++ [R]) vt V) (hs : ∀ R' ∈ Rs, R' + 1 + n < R) {a b : Nat} (ha : a ≤ n) (x : Bool) :
  St w1 (W.setCell ⟨R + 1 + a, b, none⟩ (.bool x)) p A0 c0 parts A1 c1 l A2 c2 n (Rs ++ [R]) vt (fun t => if t < Rs.length then V t else fun i j => if i = a ∧ j = b then x else V t i j) := by
 have hR : w1.heap.size < R := h.above R (by simp)
 refine ⟨below_set h.below (by show w1.heap.size ≤ R + 1 + a; omega), blk_far h.blk (by show w1.heap.size ≠ R + 1 + a; omega) _, Kd.R_far (p := ⟨R + 1 + a, b, none⟩) h.row (fun k hk => by have := hk.2 R (by simp); show k ≠ R + 1 + a; omega) _, fun t ht => ?_, h.above⟩
 have hn := h.node t ht
 rw [List.length_append, List.length_singleton] at ht
 by_cases e : t < Rs.length
 ·have e1 : (Rs ++ [R]).getD t 0 = Rs.getD t 0 := by rw [List.getD_eq_getElem?_getD, List.getElem?_append_left e, ← List.getD_eq_getElem?_getD]
  rw [e1] at hn ⊢
  simp only [if_pos e]
  have := hs _ (getD_mem e)
  exact hn.far (p := ⟨R + 1 + a, b, none⟩) (Or.inr (by show Rs.getD t 0 + 1 + n < R + 1 + a; omega)) _
 ·have e2 : t = Rs.length := by omega
  subst e2
  have e1 : (Rs ++ [R]).getD Rs.length 0 = R := by rw [List.getD_eq_getElem?_getD, List.getElem?_append_right (Nat.le_refl _)]; simp
  rw [e1] at hn ⊢
  simp only [if_neg (Nat.lt_irrefl _)]
  exact hn.put ha x
/-- What look asks. -/
theorem St.ms {w1 W : World} {p : List S49} {A0 : Option Addr} {c0 : Nat} {parts : List (List Int)} {A1 : Option Addr} {c1 : Nat} {l : List Int} {A2 : Option Addr} {c2 n : Nat} {Rs : List Nat} {vt : Value} {V : Nat → Nat → Nat → Bool} (h : St w1 W p A0 c0 parts A1 c1 l A2 c2 n Rs vt V) (hn : n ≤ 1000000) (hp : Kd.C k49 w1 A0 p.length p) (hq : Kd.C (Kd.slice 3 (Kd.int .i64)) w1 A1 parts.length parts) (hl : Kd.C (Kd.int .i64) w1 A2 l.length l) : MS W w1.heap.size p parts l (mkT Rs.length n V) := by
 obtain ⟨A3, c3, e⟩ := Kd.R_slice h.row
 have hrow := h.row
 subst e
 refine ⟨A0, c0, A1, c1, A2, c2, A3, c3, ?_, Kd.C_below hp h.below, Kd.C_below hq h.below, Kd.C_below hl h.below, table_C hn (Kd.R_reads' hrow).2.2 h.node⟩
 rw [mkT_len]; exact h.blk
/-- The rows, with a new node above. -/
theorem St.rowUp {w1 W0 W : World} {p : List S49} {A0 : Option Addr} {c0 : Nat} {parts : List (List Int)} {A1 : Option Addr} {c1 : Nat} {l : List Int} {A2 : Option Addr} {c2 n : Nat} {Rs : List Nat} {vt : Value} {V : Nat → Nat → Nat → Bool} (h : St w1 W0 p A0 c0 parts A1 c1 l A2 c2 n Rs vt V) (hb0 : Below W0.heap.size W0 W) :
  Kd.R (Kd.scalar (encR n) (encR_one n)) 79 W w1.heap.size (fun b => b ≠ w1.heap.size ∧ ∀ R ∈ Rs ++ [W0.heap.size], b < R ∨ R + 1 + n < b) vt Rs :=
 Kd.R_below (Kd.R_mono (Kd.R_bound h.row) fun b hb => ⟨hb.1.1, fun R hR => by
  rcases List.mem_append.1 hR with hR | hR
  ·exact hb.1.2 R hR
  ·rw [List.mem_singleton.1 hR]; exact Or.inl hb.2.2.1⟩) hb0
theorem St.fresh {w1 W0 W : World} {p : List S49} {A0 : Option Addr} {c0 : Nat} {parts : List (List Int)} {A1 : Option Addr} {c1 : Nat} {l : List Int} {A2 : Option Addr} {c2 n : Nat} {Rs : List Nat} {vt : Value} {V : Nat → Nat → Nat → Bool} (h : St w1 W0 p A0 c0 parts A1 c1 l A2 c2 n Rs vt V) (hb0 : Below W0.heap.size W0 W) (hN : NodeAt W W0.heap.size n (fun _ _ => false)) (k : Nat) (hk : W.heap.size ≤ k) :
  k ≠ w1.heap.size ∧ ∀ R ∈ Rs ++ [W0.heap.size], k < R ∨ R + 1 + n < k := by
 have h1 := blk_lt h.blk
 have h2 := hN.lt
 refine ⟨by omega, fun R hR => Or.inr ?_⟩
 rcases List.mem_append.1 hR with hR | hR
 ·obtain ⟨t, ht, e⟩ := mem_getD hR
  have := (h.node t ht).lt
  omega
 ·rw [List.mem_singleton.1 hR]; omega
/-- look, at a state. -/
theorem St.look {I : List Int → Int → Bool} {F : Nat → Nat → Nat → Bool} {w1 W : World} {p : List S49} {A0 : Option Addr} {c0 : Nat} {parts : List (List Int)} {A1 : Option Addr} {c1 : Nat} {l : List Int} {A2 : Option Addr} {c2 n : Nat} {Rs : List Nat} {vt : Value} {V : Nat → Nat → Nat → Bool} (h : St w1 W p A0 c0 parts A1 c1 l A2 c2 n Rs vt V) (hn : n ≤ 1000000) (hp : Kd.C k49 w1 A0 p.length p) (hq : Kd.C (Kd.slice 3 (Kd.int .i64)) w1 A1 parts.length parts) (hl : Kd.C (Kd.int .i64) w1 A2 l.length l) (hll : l.length = n)
  {i a b : Nat} (hI : (rd_T49 p (i : Int)).f0 = 2 → ∀ x, ∃ k, impl_inSet.f k (rd_T49 p (i : Int)).f1 x = some (I (rd_T49 p (i : Int)).f1 x)) (hi : i < p.length) (hlen : parts.length = p.length) (hR : Rs.length = i + 1) (hab : a ≤ b) (hb : b ≤ n) (hK : KidsOk p parts i) (hF : lookF I p parts l F i a b = F i a b)
  (h0 : ∀ t x y, t < i → x ≤ y → y ≤ n → V t x y = F t x y) (h1 : ∀ x y, a < x → x ≤ y → y ≤ n → V i x y = F i x y) :
  Calls Try.prog 92 #[.pointer (some ⟨w1.heap.size, 0, none⟩), .int .i64 (i : Int), .int .i64 (a : Int), .int .i64 (b : Int)] W fun e w' => e = .returned (.bool (F i a b)) ∧ Below W.heap.size W w' := by
 have := look_any I F w1.heap.size p parts l (mkT Rs.length n V) n i a b W (h.ms hn hp hq hl) (mkT_dims _ _ _) hll hi (by omega) hb hab hn (by rw [mkT_len]; omega) hK hI
  (fun k x y hk hxy hy => by rw [mkT_hv (by omega) (by omega) hy, h0 k x y hk hxy hy])
  (fun x y hx hxy hy => by rw [mkT_hv (by omega) (by omega) hy, h1 x y hx hxy hy])
 rw [hF] at this
 exact this
theorem cell_setFar {W : World} {b c j k : Nat} {v u : Value} (h : W.cell? ⟨b, j, none⟩ = some v) (hne : b ≠ c) : (W.setCell ⟨c, k, none⟩ u).cell? ⟨b, j, none⟩ = some v := by
 unfold World.cell? at h ⊢
 rw [Below.heap_setCell W ⟨c, k, none⟩ u b hne]
 exact h
theorem match_walk (I : List Int → Int → Bool) (F : Nat → Nat → Nat → Bool) (k : Nat) (A0 : Option Addr) (c0 : Nat) (p : List S49) (A2 : Option Addr) (c2 : Nat) (l : List Int) (parts : List (List Int)) (ok : Bool) (n : Nat) (w : World) (hp : Kd.C k49 w A0 p.length p) (hc0 : p.length ≤ c0) (hl : Kd.C (Kd.int .i64) w A2 l.length l) (hc2 : l.length ≤ c2) (hn : l.length = n) (hn1 : n ≤ 1000) (hp1 : p.length ≤ 1000) (h : impl_parts.f k p = some (parts, ok))
  (hI : ∀ node, node < p.length → (rd_T49 p (node : Int)).f0 = 2 → ∀ x, ∃ k, impl_inSet.f k (rd_T49 p (node : Int)).f1 x = some (I (rd_T49 p (node : Int)).f1 x)) (hlen : parts.length = p.length) (hK : ∀ node, node < p.length → KidsOk p parts node) (hF : ∀ node a b, node < p.length → a ≤ b → b ≤ n → lookF I p parts l F node a b = F node a b) :
  Calls Try.prog 63 #[.slice A0 p.length c0, .slice A2 l.length c2] w fun e w' => ∃ (g : Nat) (table : List (List (List Bool))), e = .returned (.pointer (some ⟨g, 0, none⟩)) ∧ MS w' g p parts l table ∧ Dims table n ∧ table.length = p.length ∧ (∀ t a b, t < p.length → a ≤ b → b ≤ n → mhv table t a b = F t a b) ∧ Below w.heap.size w w' := by
 have HP := Aside0.mk (impl_parts.calls k A0 c0 p parts ok w hp hc0 h)
 have HC0 := Aside0.mk hp
 have HC2 := Aside0.mk hl
 have HF := Aside0.mk hF
 have HK := Aside0.mk hK
 have HLEN := Aside0.mk hlen
 have HI := Aside0.mk hI
 have HN := Aside0.mk hn
 clear hp hl h hF hK hlen hI hn
 have hu84 := Try.underlying84
 go_enter Try.func63, Try.ntmps63
 go_wp2_with (first | (go_at_call 51; (with_reducible refine HP.out.mono ?_); rintro e w1 ⟨v1, rfl, hs, hb⟩; have HS1 := Aside0.mk hs; have HB1 := Aside0.mk hb; clear hs hb; obtain ⟨A1, c1, ev1⟩ := Kd.S_slice HS1.out; subst ev1))
 have HC1 : Aside0 (Kd.C (Kd.slice 3 (Kd.int .i64)) w1 A1 parts.length parts) := ⟨(Kd.R_reads' (Kd.S_R HS1.out)).2.2⟩
 have HST := Aside0.mk (show St w1 (w1.alloc (.cells #[.slice A0 p.length c0, .slice A1 parts.length c1, .slice A2 l.length c2, .slice none 0 0] 84)) p A0 c0 parts A1 c1 l A2 c2 n [] (.slice none 0 0) (fun _ _ _ => false) from
  ⟨below_alloc (Below.refl _ _) _, blk_new w1 _, Kd.R_nil _ _ _ _ _, fun t ht => by simp at ht, fun R hR => by cases hR⟩)
 go_loopw [25] (fun v wr => ∃ (i : Nat) (Rs : List Nat) (vt : Value) (V : Nat → Nat → Nat → Bool), i ≤ p.length ∧ v = .int .i64 i ∧ Aside0 (Rs.length = i) ∧ Aside0 (St w1 wr p A0 c0 parts A1 c1 l A2 c2 n Rs vt V) ∧ Aside0 (∀ t a b, t < i → a ≤ b → b ≤ n → V t a b = F t a b)) (fun v wr => p.length - (intOf v).toNat)
 case atStart => exact ⟨0, [], _, _, by omega, rfl, ⟨rfl⟩, HST, ⟨fun t a b ht => by omega⟩⟩
 case round =>
  obtain ⟨i, Rs, vt, V, hi, rfl, HR, HST1, HV⟩ := hrel
  clear HST
  obtain ⟨W0, rfl⟩ : ∃ W0, W0 = wr := ⟨wr, rfl⟩
  by_cases hc : i < p.length
  ·have q1 : decide (i < p.length) = true := decide_eq_true hc
   have hmk1 := make79 n (by omega)
   have hmk2 := make81 n (by omega)
   have hln : ((l.length : Nat) : Int) = (n : Int) := by rw [HN.out]
   have q0 : decide ((0 : Int) ≤ (n : Int) + 1) = true := decide_eq_true (by omega)
   go_wp2
   go_loopw [34] (fun v W => ∃ j : Nat, j ≤ n + 1 ∧ v = .int .i64 j ∧ Aside0 (Cur W0 W n j)) (fun v W => n + 1 - (intOf v).toNat)
   case atStart => exact ⟨0, by omega, rfl, ⟨Cur.start⟩⟩
   case round =>
    obtain ⟨j, hj, rfl, HCU⟩ := hrel
    by_cases hcj : j < n + 1
    ·have q2 : decide (j < n + 1) = true := decide_eq_true hcj
     have hsz := HCU.out.size
     have hlt : W0.heap.size < wr.heap.size := by omega
     have hcell := HCU.out.rows.cell (k := j) (by omega)
     have hfz := blk_frozen HCU.out.rows j
     clear hsz
     go_wp2
     go_roundw
     case rel => exact ⟨j + 1, by omega, by go_num, ⟨HCU.out.step2 (by omega)⟩⟩
     case measure => simp [intOf] <;> omega
    ·obtain rfl : n + 1 = j := by omega
     have HND := Aside0.mk HCU.out.done
     have HST2 := Aside0.mk (HST1.out.go HCU.out.below)
     have hgz := Aside0.mk (show w1.heap.size < W0.heap.size from blk_lt HST1.out.blk)
     have hgz2 := Aside0.mk (show W0.heap.size < wr.heap.size from HND.out.1.lt)
     have hc3 : wr.cell? ⟨w1.heap.size, 3, none⟩ = some vt := (blk_cell HST2.out.blk 3).trans rfl
     have hrow := Aside0.mk (HST1.out.rowUp HCU.out.below)
     have hfr := Aside0.mk (HST1.out.fresh HCU.out.below HND.out)
     have hlen0 := Aside0.mk (show Rs.length + 1 ≤ 1001 from by have := HR.out; omega)
     go_wp2_with (((with_reducible refine gate_builtin (b := .append) (xs := #[.tmp 49, .tmp 51]) rfl ?_); at_builtin; refine Kd.R_append (Kd.scalar (encR n) (encR_one n)) (w0 := w1) w1.heap.size rfl (.tmp 49) (.tmp 51) 82 79 (.slice none 0 0) 24 rfl und82m info79m rfl (Nat.zero_lt_one) (by omega) vt Rs W0.heap.size [encR n W0.heap.size] (fun b => b ≠ w1.heap.size ∧ ∀ R ∈ Rs ++ [W0.heap.size], b < R ∨ R + 1 + n < b) (fun _ => False) rfl rfl ?aP (fun _ hk => hk.elim) ?aF ?aO ?aB ?aS ?aL ?_; (case aP => exact rfl); (case aF => exact hfr.out); (case aO => exact hrow.out); (case aB => exact HST2.out.below); (case aS => exact HST2.out.below.size); (case aL => have := hlen0.out; omega); intro v4 w6 ho hb hg hat; obtain ⟨A4, c4, e4⟩ := Kd.R_slice ho; subst e4; have HAP := Aside0.mk (HST1.out.append HCU.out.below HND.out ho hb hg); clear ho hb hg hat; have hfz := blk_frozen HAP.out.1 3; have hcell : w6.cell? ⟨w1.heap.size, 3, none⟩ = some vt := (blk_cell HAP.out.1 3).trans rfl))
     have HAP2 := Aside0.mk HAP.out.2
     have hsep : Aside0 (∀ R' ∈ Rs, R' + 1 + n < W0.heap.size) := ⟨fun R' hR' => by
      obtain ⟨t, ht, e⟩ := mem_getD hR'
      have := (HST1.out.node t ht).lt
      rw [e] at this; omega⟩
     have HV2 : Aside0 (∀ t a b, t < i → a ≤ b → b ≤ n → (if t < Rs.length then V t else fun _ _ => false) a b = F t a b) := ⟨fun t a b h1 h2 h3 => by
      have := HR.out
      rw [if_pos (by omega)]; exact HV.out t a b h1 h2 h3⟩
     clear hrow hfr HAP HND HST2 hgz hgz2 hc3 HCU hj hcj
     have eL : (Rs ++ [W0.heap.size]).length = Rs.length + 1 := by simp
     rw [eL] at HAP2
     go_loopw [11] (fun v W => ∃ (c : Nat) (V1 : Nat → Nat → Nat → Bool), c ≤ n + 1 ∧ v = .int .i64 ((c : Int) - 1) ∧ Aside0 (St w1 W p A0 c0 parts A1 c1 l A2 c2 n (Rs ++ [W0.heap.size]) (.slice A4 (Rs.length + 1) c4) V1) ∧ Aside0 (∀ t a b, t < i → a ≤ b → b ≤ n → V1 t a b = F t a b) ∧ Aside0 (∀ a b, c ≤ a → a ≤ b → b ≤ n → V1 i a b = F i a b)) (fun v W => ((intOf v) + 1).toNat)
     case atStart => exact ⟨n + 1, _, by omega, by congr 1; omega, HAP2, HV2, ⟨fun a b h1 h2 h3 => by omega⟩⟩
     case round =>
      obtain ⟨c, V1, hc1, rfl, HS3, HV3, HV4⟩ := hrel
      clear HAP2 HV2
      obtain ⟨W3, rfl⟩ : ∃ W3, W3 = wr := ⟨wr, rfl⟩
      by_cases hc0' : 0 < c
      ·obtain ⟨a, rfl⟩ : ∃ a, c = a + 1 := ⟨c - 1, by omega⟩
       have ea : ((a + 1 : Nat) : Int) - 1 = (a : Int) := by omega
       rw [ea]
       have q2 : decide ((0 : Int) ≤ (a : Int)) = true := decide_eq_true (by omega)
       go_wp2
       go_loopw [12] (fun v W => ∃ (b : Nat) (V2 : Nat → Nat → Nat → Bool), a ≤ b ∧ b ≤ n + 1 ∧ v = .int .i64 (b : Int) ∧ Aside0 (St w1 W p A0 c0 parts A1 c1 l A2 c2 n (Rs ++ [W0.heap.size]) (.slice A4 (Rs.length + 1) c4) V2) ∧ Aside0 (∀ t a b, t < i → a ≤ b → b ≤ n → V2 t a b = F t a b) ∧ Aside0 (∀ x y, a < x → x ≤ y → y ≤ n → V2 i x y = F i x y) ∧ Aside0 (∀ y, a ≤ y → y < b → V2 i a y = F i a y)) (fun v W => n + 1 - (intOf v).toNat)
       case atStart => exact ⟨a, V1, by omega, by omega, rfl, HS3, HV3, ⟨fun x y h1 h2 h3 => HV4.out x y (by omega) h2 h3⟩, ⟨fun y h1 h2 => by omega⟩⟩
       case round =>
        obtain ⟨b, V2, hab, hb1, rfl, HS4, HV5, HV6, HV7⟩ := hrel
        clear HV3 HV4
        by_cases hbn : b ≤ n
        ·have q3 : decide (b ≤ n) = true := decide_eq_true hbn
         have HLK : Aside0 (∀ W', Below wr.heap.size wr W' → Calls Try.prog 92 #[.pointer (some ⟨w1.heap.size, 0, none⟩), .int .i64 (i : Int), .int .i64 (a : Int), .int .i64 (b : Int)] W' fun e w' => e = .returned (.bool (F i a b)) ∧ Below wr.heap.size wr w') := ⟨fun W' hB => ((HS4.out.go hB).look (by omega) (Kd.C_below HC0.out HB1.out) HC1.out (Kd.C_below HC2.out HB1.out) HN.out (HI.out i hc) hc HLEN.out (by simp [HR.out]) hab hbn (HK.out i hc) (HF.out i a b hc hab hbn) HV5.out HV6.out).mono fun e w' ⟨h1, h2⟩ => ⟨h1, hB.trans (h2.mono hB.size)⟩⟩
         have HX : Aside0 (∀ W', Below wr.heap.size wr W' → W'.cell? ⟨W0.heap.size, a, none⟩ = some (.slice (some ⟨W0.heap.size + 1 + a, 0, none⟩) (n + 1) (n + 1)) ∧ W'.cell? ⟨W0.heap.size + 1 + a, b, none⟩ = some (.bool (V2 i a b)) ∧ W'.frozen? ⟨W0.heap.size + 1 + a, b, none⟩ = false) := ⟨fun W' hB => by
          have hnd := (HS4.out.go hB).node Rs.length (by simp)
          rw [show (Rs ++ [W0.heap.size]).getD Rs.length 0 = W0.heap.size from by simp, HR.out] at hnd
          exact ⟨hnd.1.cell (k := a) (by omega), (hnd.2 a (by omega)).cell (k := b) hbn, blk_frozen (hnd.2 a (by omega)) b⟩⟩
         have hcell := (HX.out wr (Below.refl _ _)).1
         have qa : a < n + 1 := by omega
         have qb : b < n + 1 := by omega
         have qa1 : (0 : Int) ≤ (a : Int) := by omega
         have qb1 : (0 : Int) ≤ (b : Int) := by omega
         have qa2 : decide (a < n + 1) = true := decide_eq_true qa
         have qb2 : decide (b < n + 1) = true := decide_eq_true qb
         have qa3 : a ≤ n := by omega
         have qa4 : (a : Int) < (n : Int) + 1 := by omega
         have qb4 : (b : Int) < (n : Int) + 1 := by omega
         have qa5 : (a : Int) < ((n + 1 : Nat) : Int) := by omega
         have qb5 : (b : Int) < ((n + 1 : Nat) : Int) := by omega
         go_wp2
         clear hln q0 eL ea
         go_region_held3 (fun w' => w'.cell? ⟨W0.heap.size, a, none⟩ = some (.slice (some ⟨W0.heap.size + 1 + a, 0, none⟩) (n + 1) (n + 1))) (first | (go_keep; done) | (refine cell_setFar (HX.out _ ?_).1 (by omega); (repeat (first | (with_reducible first | exact Aside0.out (by assumption) | exact Below.refl _ _ | apply pw_below_drewN | apply below_drew1 | apply below_alloc))); done) | (refine (HX.out _ ?_).1; (repeat (first | (with_reducible first | exact Aside0.out (by assumption) | exact Below.refl _ _ | apply pw_below_drewN | apply below_drew1 | apply below_alloc))); done)) ((go_at_call 92; (with_reducible refine (HLK.out _ be_).mono ?_); rintro e w' ⟨rfl, hb⟩; have HB := Aside0.mk hb; have hcell2 := (HX.out _ hb).2.1; have hfz := (HX.out _ hb).2.2; clear hb))
         all_goals
          have HS5 := Aside0.mk ((HS4.out.go HB.out).put hsep.out (show a ≤ n by omega) (b := b) (F i a b))
          have eR := HR.out
          clear hcell hcell2 hfz HX HLK HB HS4
          go_wp2
          go_roundw
          case rel =>
           refine ⟨b + 1, _, by omega, by omega, by go_num, HS5, ⟨fun t x y h1 h2 h3 => ?_⟩, ⟨fun x y h1 h2 h3 => ?_⟩, ⟨fun y h1 h2 => ?_⟩⟩
           ·simp only [eR, if_pos h1]; exact HV5.out t x y h1 h2 h3
           ·simp only [eR, if_neg (Nat.lt_irrefl i), if_neg (show ¬ (x = a ∧ y = b) by omega)]; exact HV6.out x y h1 h2 h3
           ·simp only [eR, if_neg (Nat.lt_irrefl i)]
            by_cases e : y = b
            ·subst e; simp
            ·rw [if_neg (by omega)]; exact HV7.out y h1 (by omega)
          case measure => simp [intOf] <;> omega
        ·obtain rfl : b = n + 1 := by omega
         have q3 : decide (n + 1 ≤ n) = false := decide_eq_false (by omega)
         have HC5 : Aside0 (∀ x y, a ≤ x → x ≤ y → y ≤ n → V2 i x y = F i x y) := ⟨fun x y h1 h2 h3 => by
          by_cases e : x = a
          ·subst e; exact HV7.out y h2 (by omega)
          ·exact HV6.out x y (by omega) h2 h3⟩
         clear HV6 HV7
         go_wp2
         go_roundw
         case rel => exact ⟨a, V2, by omega, by go_num, HS4, HV5, HC5⟩
         case measure => simp [intOf] <;> omega
      ·obtain rfl : c = 0 := by omega
       have q2 : decide ((0 : Int) ≤ ((0 : Nat) : Int) - 1) = false := decide_eq_false (by omega)
       go_wp2
       go_roundw
       case rel =>
        refine ⟨i + 1, Rs ++ [W0.heap.size], _, V1, by omega, by go_num, ⟨by simp [HR.out]⟩, HS3, ⟨fun t x y h1 h2 h3 => ?_⟩⟩
        by_cases e : t = i
        ·subst e; exact HV4.out x y (by omega) h2 h3
        ·exact HV3.out t x y (by omega) h2 h3
       case measure => simp [intOf] <;> omega
  ·obtain rfl : i = p.length := by omega
   have q1 : decide (p.length < p.length) = false := decide_eq_false (by omega)
   go_wp2
   go_ret
   exact ⟨w1.heap.size, mkT Rs.length n V, rfl, HST1.out.ms (by omega) (Kd.C_below HC0.out HB1.out) HC1.out (Kd.C_below HC2.out HB1.out), mkT_dims _ _ _, by rw [mkT_len]; exact HR.out, fun t a b h1 h2 h3 => by rw [mkT_hv (by rw [HR.out]; exact h1) (by omega) h3]; exact HV.out t a b h1 h2 h3, HB1.out.trans (HST1.out.below.mono HB1.out.size)⟩
theorem lookF_nil (I : List Int → Int → Bool) (p : List S49) (parts : List (List Int)) (l : List Int) (V : Nat → Nat → Nat → Bool) (node a b : Nat) (h : (rd_T49 p (node : Int)).f0 = 1) : lookF I p parts l V node a b = decide (a = b) := by
 unfold lookF
 rw [if_pos h]
theorem lookF_set (I : List Int → Int → Bool) (p : List S49) (parts : List (List Int)) (l : List Int) (V : Nat → Nat → Nat → Bool) (node a b : Nat) (h : (rd_T49 p (node : Int)).f0 = 2) : lookF I p parts l V node a b = (if b = a + 1 then I (rd_T49 p (node : Int)).f1 (rd l (a : Int)) else false) := by
 unfold lookF
 rw [if_neg (by omega), if_pos h]
theorem lookF_or (I : List Int → Int → Bool) (p : List S49) (parts : List (List Int)) (l : List Int) (V : Nat → Nat → Nat → Bool) (node a b : Nat) (h : (rd_T49 p (node : Int)).f0 = 4) : lookF I p parts l V node a b = (V (kd parts node 0) a b || V (kd parts node 1) a b) := by
 unfold lookF
 rw [if_neg (by omega), if_neg (by omega), if_pos h]
theorem lookF_and (I : List Int → Int → Bool) (p : List S49) (parts : List (List Int)) (l : List Int) (V : Nat → Nat → Nat → Bool) (node a b : Nat) (h : (rd_T49 p (node : Int)).f0 = 5) : lookF I p parts l V node a b = (V (kd parts node 0) a b && V (kd parts node 1) a b) := by
 unfold lookF
 rw [if_neg (by omega), if_neg (by omega), if_neg (by omega), if_pos h]
theorem lookF_not (I : List Int → Int → Bool) (p : List S49) (parts : List (List Int)) (l : List Int) (V : Nat → Nat → Nat → Bool) (node a b : Nat) (h : (rd_T49 p (node : Int)).f0 = 7) : lookF I p parts l V node a b = (!V (kd parts node 0) a b) := by
 unfold lookF
 rw [if_neg (by omega), if_neg (by omega), if_neg (by omega), if_neg (by omega), if_pos h]
theorem lookF_star (I : List Int → Int → Bool) (p : List S49) (parts : List (List Int)) (l : List Int) (V : Nat → Nat → Nat → Bool) (node a b : Nat) (h : (rd_T49 p (node : Int)).f0 = 6) : lookF I p parts l V node a b = (if a = b then true else anyFT (a + 1) b fun m => V (kd parts node 0) a m && V node m b) := by
 unfold lookF
 rw [if_neg (by omega), if_neg (by omega), if_neg (by omega), if_neg (by omega), if_neg (by omega), if_pos h]
theorem lookF_cat (I : List Int → Int → Bool) (p : List S49) (parts : List (List Int)) (l : List Int) (V : Nat → Nat → Nat → Bool) (node a b : Nat) (h : (rd_T49 p (node : Int)).f0 = 3) : lookF I p parts l V node a b = (anyFT a b fun m => V (kd parts node 0) a m && V (kd parts node 1) m b) := by
 unfold lookF
 rw [if_neg (by omega), if_neg (by omega), if_neg (by omega), if_neg (by omega), if_neg (by omega), if_neg (by omega)]
theorem lookF_congr {I : List Int → Int → Bool} {p : List S49} {parts : List (List Int)} {l : List Int} {V V' : Nat → Nat → Nat → Bool} {node a b : Nat} (hK : KidsOk p parts node) (hab : a ≤ b) (h0 : ∀ k i j, k < node → a ≤ i → i ≤ j → j ≤ b → V k i j = V' k i j) (h1 : ∀ i, a < i → i ≤ b → V node i b = V' node i b) : lookF I p parts l V node a b = lookF I p parts l V' node a b := by
 obtain ⟨hop, hkk⟩ := hK
 have k0 : ∀ i, i < (parts.getD node []).length → kd parts node i < node := fun i hi => (kid_at hkk hi).2
 rcases hop with h | h | ⟨h | h, hk⟩ | ⟨h | h | h, hk⟩
 ·rw [lookF_nil _ _ _ _ _ _ _ _ h, lookF_nil _ _ _ _ _ _ _ _ h]
 ·rw [lookF_set _ _ _ _ _ _ _ _ h, lookF_set _ _ _ _ _ _ _ _ h]
 ·rw [lookF_star _ _ _ _ _ _ _ _ h, lookF_star _ _ _ _ _ _ _ _ h]
  by_cases e : a = b
  ·rw [if_pos e, if_pos e]
  ·rw [if_neg e, if_neg e]
   exact anyFT_congr fun m g1 g2 => by rw [h0 _ a m (k0 0 (by omega)) (Nat.le_refl _) (by omega) g2, h1 m (by omega) g2]
 ·rw [lookF_not _ _ _ _ _ _ _ _ h, lookF_not _ _ _ _ _ _ _ _ h, h0 _ a b (k0 0 (by omega)) (Nat.le_refl _) hab (Nat.le_refl _)]
 ·rw [lookF_cat _ _ _ _ _ _ _ _ h, lookF_cat _ _ _ _ _ _ _ _ h]
  exact anyFT_congr fun m g1 g2 => by rw [h0 _ a m (k0 0 (by omega)) (Nat.le_refl _) g1 g2, h0 _ m b (k0 1 (by omega)) g1 g2 (Nat.le_refl _)]
 ·rw [lookF_or _ _ _ _ _ _ _ _ h, lookF_or _ _ _ _ _ _ _ _ h, h0 _ a b (k0 0 (by omega)) (Nat.le_refl _) hab (Nat.le_refl _), h0 _ a b (k0 1 (by omega)) (Nat.le_refl _) hab (Nat.le_refl _)]
 ·rw [lookF_and _ _ _ _ _ _ _ _ h, lookF_and _ _ _ _ _ _ _ _ h, h0 _ a b (k0 0 (by omega)) (Nat.le_refl _) hab (Nat.le_refl _), h0 _ a b (k0 1 (by omega)) (Nat.le_refl _) hab (Nat.le_refl _)]
/-- What a node tells, by fuel. -/
def Fm (I : List Int → Int → Bool) (p : List S49) (parts : List (List Int)) (l : List Int) : Nat → Nat → Nat → Nat → Bool
 | 0, _, _, _ => false
 | f + 1, node, a, b => lookF I p parts l (Fm I p parts l f) node a b
theorem Fm_fuel {I : List Int → Int → Bool} {p : List S49} {parts : List (List Int)} {l : List Int} {n : Nat} : ∀ (f f' node a b : Nat), node * (n + 1) + (b - a) < f → node * (n + 1) + (b - a) < f' → (∀ t, t ≤ node → KidsOk p parts t) → a ≤ b → b ≤ n → Fm I p parts l f node a b = Fm I p parts l f' node a b
 | 0, _, _, _, _, h, _, _, _, _ => by omega
 | _ + 1, 0, _, _, _, _, h, _, _, _ => by omega
 | f + 1, f' + 1, node, a, b, h, h', hK, hab, hb => by
  show lookF I p parts l (Fm I p parts l f) node a b = lookF I p parts l (Fm I p parts l f') node a b
  refine lookF_congr (hK node (Nat.le_refl _)) hab (fun k i j g1 g2 g3 g4 => ?_) (fun i g1 g2 => ?_)
  ·have hm : (k + 1) * (n + 1) ≤ node * (n + 1) := Nat.mul_le_mul_right _ (by omega)
   rw [Nat.succ_mul] at hm
   exact Fm_fuel (n := n) f f' k i j (by omega) (by omega) (fun t ht => hK t (by omega)) g3 (by omega)
  ·exact Fm_fuel (n := n) f f' node i b (by omega) (by omega) hK g2 hb
/-- What a node tells of a part of a list. -/
def reF (I : List Int → Int → Bool) (p : List S49) (parts : List (List Int)) (l : List Int) (node a b : Nat) : Bool := Fm I p parts l (node * (l.length + 1) + (b - a) + 1) node a b
theorem reF_step {I : List Int → Int → Bool} {p : List S49} {parts : List (List Int)} {l : List Int} {node a b : Nat} (hK : ∀ t, t ≤ node → KidsOk p parts t) (hab : a ≤ b) (hb : b ≤ l.length) : lookF I p parts l (reF I p parts l) node a b = reF I p parts l node a b := by
 show _ = lookF I p parts l (Fm I p parts l (node * (l.length + 1) + (b - a))) node a b
 refine lookF_congr (hK node (Nat.le_refl _)) hab (fun k i j g1 g2 g3 g4 => ?_) (fun i g1 g2 => ?_)
 ·have hm : (k + 1) * (l.length + 1) ≤ node * (l.length + 1) := Nat.mul_le_mul_right _ (by omega)
  rw [Nat.succ_mul] at hm
  exact Fm_fuel (n := l.length) _ _ k i j (by omega) (by omega) (fun t ht => hK t (by omega)) g3 (by omega)
 ·exact Fm_fuel (n := l.length) _ _ node i b (by omega) (by omega) hK g2 hb
open Classical in
/-- Is a number in a set: what inSet answers. -/
noncomputable def inV (s : List Int) (x : Int) : Bool := if h : ∃ r k, impl_inSet.f k s x = some r then Classical.choose h else false
theorem inV_at {s : List Int} {x : Int} (h : ∃ r k, impl_inSet.f k s x = some r) : ∃ k, impl_inSet.f k s x = some (inV s x) := by
 unfold inV
 rw [dif_pos h]
 exact Classical.choose_spec h
/-- What the matcher asks of a pattern and its parts. -/
def MOk (p : List S49) (parts : List (List Int)) : Prop := parts.length = p.length ∧ p.length ≤ 1000 ∧ 0 < p.length ∧ (∀ node, node < p.length → KidsOk p parts node) ∧ ∀ node, node < p.length → (rd_T49 p (node : Int)).f0 = 2 → ∀ x, ∃ r k, impl_inSet.f k (rd_T49 p (node : Int)).f1 x = some r
open Classical in
/-- What the whole pattern tells of the whole list. -/
noncomputable def reM (p : List S49) (parts : List (List Int)) (l : List Int) : Option Bool := if MOk p parts ∧ l.length ≤ 1000 then some (reF inV p parts l (p.length - 1) 0 l.length) else none
theorem match_has (k : Nat) (A0 : Option Addr) (c0 : Nat) (p : List S49) (A2 : Option Addr) (c2 : Nat) (l : List Int) (parts : List (List Int)) (ok : Bool) (r : Bool) (w : World) (hp : Kd.C k49 w A0 p.length p) (hc0 : p.length ≤ c0) (hl : Kd.C (Kd.int .i64) w A2 l.length l) (hc2 : l.length ≤ c2) (h : impl_parts.f k p = some (parts, ok)) (hr : reM p parts l = some r) :
  Calls Try.prog 63 #[.slice A0 p.length c0, .slice A2 l.length c2] w fun e w' => ∃ g : Nat, e = .returned (.pointer (some ⟨g, 0, none⟩)) ∧ Below w.heap.size w w' ∧ Calls Try.prog 64 #[.pointer (some ⟨g, 0, none⟩), .int .i64 ((p.length : Int) - 1), .int .i64 0, .int .i64 (l.length : Int)] w' fun e w'' => e = .returned (.bool r) ∧ w' = w'' := by
 unfold reM at hr
 split at hr
 ·rename_i hM
  obtain rfl := Option.some.inj hr
  obtain ⟨⟨h1, h2, h3, h4, h5⟩, h6⟩ := hM
  refine (match_walk inV (reF inV p parts l) k A0 c0 p A2 c2 l parts ok l.length w hp hc0 hl hc2 rfl h6 h2 h (fun node hn hf x => inV_at (h5 node hn hf x)) h1 h4 (fun node a b hn hab hb => reF_step (fun t ht => h4 t (by omega)) hab hb)).mono ?_
  rintro e w' ⟨g, table, rfl, hM, hD, hlen, mhv, hb⟩
  refine ⟨g, rfl, hb, ?_⟩
  have := mhas.calls g p parts l table l.length (p.length - 1) 0 l.length w' hM hD (by omega) (Nat.zero_le _) (Nat.le_refl _)
  rw [mhv _ _ _ (by omega) (Nat.zero_le _) (Nat.le_refl _), show ((p.length - 1 : Nat) : Int) = (p.length : Int) - 1 from by omega] at this
  exact this
 ·cases hr
theorem reM_bounds {p : List S49} {parts : List (List Int)} {l : List Int} {r : Bool} (h : reM p parts l = some r) : 0 < p.length ∧ p.length ≤ 1000 ∧ l.length ≤ 1000 := by
 unfold reM at h
 split at h
 ·rename_i hM
  exact ⟨hM.1.2.2.1, hM.1.2.1, hM.2⟩
 ·cases h

noncomputable def impl_isNullable.f (k : Nat) (l0 : List S49) : Option Bool := (impl_parts.f k l0).bind fun t => reM l0 t.1 []
theorem impl_isNullable.calls (k : Nat) (A0 : Option Addr) (c0 : Nat) (l0 : List S49) (r : Bool) (w : World) (hr0 : Kd.C k49 w A0 l0.length l0) (hc0 : l0.length ≤ c0) (h : impl_isNullable.f k l0 = some r) :
  Calls Try.prog 62 #[.slice A0 l0.length c0] w fun e w' => e = .returned (.bool r) ∧ Below w.heap.size w w' := by
 obtain ⟨⟨parts, ok⟩, h1, h2⟩ := Option.bind_eq_some_iff.1 h
 obtain ⟨b1, b2, b3⟩ := reM_bounds h2
 have HM0 := match_has k A0 c0 l0 none 0 [] parts ok r w hr0 hc0 ⟨by simp, by simp, fun h => by simp at h⟩ (by simp) h1 h2
 simp only [List.length_nil, Int.natCast_zero] at HM0
 have HM := Aside0.mk HM0
 clear HM0
 have hw1 : IntKind.i64.wrap ((l0.length : Int) - 1) = (l0.length : Int) - 1 := by rw [IntKind.wrap_i64]; omega
 clear h h1 h2 hr0
 go_enter Try.func62, Try.ntmps62
 go_wp2_with (first | (go_at_call 63; (with_reducible refine HM.out.mono ?_); rintro e w1 ⟨g, rfl, hb, hc⟩; have HB := Aside0.mk hb; have HC := Aside0.mk hc; clear hb hc) | (go_at_call 64; (with_reducible refine HC.out.mono ?_); rintro e w2 ⟨rfl, rfl⟩))
 go_ret
 exact ⟨rfl, HB.out⟩

def impl_deriv.f : Nat → List (S49) → Int → Option ((List (S49)))
 | 0, _, _ => none
 | k + 1, l0, a1 => (impl_split.f k l0).bind fun bt511 => (if bt511.1 = 1 then ((impl_nothing.f).bind fun t518 => (some t518)) else (if bt511.1 = 2 then (if 0 ≤ (wrap64 ((l0.length : Int) - 1)) then (if (wrap64 ((l0.length : Int) - 1)) < (l0.length : Int) then ((impl_inSet.f k ((rd_T49 l0 (wrap64 ((l0.length : Int) - 1))).f1) a1).bind fun t522 => (if t522 = true then ((impl_none.f).bind fun t523 => (some t523)) else ((impl_nothing.f).bind fun t526 => (some t526)))) else (none)) else (none)) else (if bt511.1 = 6 then ((impl_deriv.f k bt511.2.1 a1).bind fun t529 => ((impl_node.f 3 (([t529, l0] : List (List (S49))))).bind fun t535 => (some t535))) else (if bt511.1 = 7 then ((impl_deriv.f k bt511.2.1 a1).bind fun t538 => ((impl_node.f 7 (([t538] : List (List (S49))))).bind fun t544 => (some t544))) else (if bt511.1 = 3 then ((impl_deriv.f k bt511.2.1 a1).bind fun t547 => ((impl_node.f 3 (([t547, bt511.2.2] : List (List (S49))))).bind fun t553 => ((impl_isNullable.f k bt511.2.1).bind fun t556 => (if t556 = true then ((impl_deriv.f k bt511.2.2 a1).bind fun t557 => ((impl_node.f 4 (([t553, t557] : List (List (S49))))).bind fun t563 => (some t563))) else (some t553))))) else ((impl_deriv.f k bt511.2.1 a1).bind fun t566 => ((impl_deriv.f k bt511.2.2 a1).bind fun t569 => ((impl_node.f bt511.1 (([t566, t569] : List (List (S49))))).bind fun t575 => (some t575)))))))))
theorem impl_deriv.calls (k : Nat) : ∀ (P0_ : Nat → Prop) (A0 : Option Addr) (c0 : Nat) (l0 : List (S49)) (a1 : Int) (r : List (S49)) (w : World) (hs0 : Kd.V k49 49 w w.heap.size (fun k_ => P0_ k_) (.slice A0 l0.length c0) l0) (h : impl_deriv.f k l0 a1 = some r),
  Calls Try.prog 75 #[.slice A0 l0.length c0, .int .i64 a1] w fun e w' => ∃ v0_ : Value, e = .returned (v0_) ∧ Kd.N k49 49 w' w.heap.size (fun k_ => (P0_ k_ ∨ w.heap.size ≤ k_)) v0_ r ∧ Below w.heap.size w w' := by
 induction k using Nat.strongRecOn with
 | _ k ih =>
 intro P0_ A0 c0 l0 a1 r w hs0 h
 cases k with
 | zero => exact absurd h (by simp [impl_deriv.f])
 | succ k =>
 simp only [impl_deriv.f] at h
 have HO0 := Aside0.mk (show Kd.V k49 49 w w.heap.size (fun k_ => (P0_ k_ ∨ w.heap.size ≤ k_)) (.slice A0 l0.length c0) l0 from Kd.V_mono hs0 (fun k_ hk => .inl hk))
 have HB := Aside0.mk (Below.refl w.heap.size w)
 have H : ((impl_split.f k l0).bind fun bt511 => (if bt511.1 = 1 then ((impl_nothing.f).bind fun t518 => (some t518)) else (if bt511.1 = 2 then (if 0 ≤ (wrap64 ((l0.length : Int) - 1)) then (if (wrap64 ((l0.length : Int) - 1)) < (l0.length : Int) then ((impl_inSet.f k ((rd_T49 l0 (wrap64 ((l0.length : Int) - 1))).f1) a1).bind fun t522 => (if t522 = true then ((impl_none.f).bind fun t523 => (some t523)) else ((impl_nothing.f).bind fun t526 => (some t526)))) else (none)) else (none)) else (if bt511.1 = 6 then ((impl_deriv.f k bt511.2.1 a1).bind fun t529 => ((impl_node.f 3 (([t529, l0] : List (List (S49))))).bind fun t535 => (some t535))) else (if bt511.1 = 7 then ((impl_deriv.f k bt511.2.1 a1).bind fun t538 => ((impl_node.f 7 (([t538] : List (List (S49))))).bind fun t544 => (some t544))) else (if bt511.1 = 3 then ((impl_deriv.f k bt511.2.1 a1).bind fun t547 => ((impl_node.f 3 (([t547, bt511.2.2] : List (List (S49))))).bind fun t553 => ((impl_isNullable.f k bt511.2.1).bind fun t556 => (if t556 = true then ((impl_deriv.f k bt511.2.2 a1).bind fun t557 => ((impl_node.f 4 (([t553, t557] : List (List (S49))))).bind fun t563 => (some t563))) else (some t553))))) else ((impl_deriv.f k bt511.2.1 a1).bind fun t566 => ((impl_deriv.f k bt511.2.2 a1).bind fun t569 => ((impl_node.f bt511.1 (([t566, t569] : List (List (S49))))).bind fun t575 => (some t575)))))))))) = some r := h
 clear h
 replace H := Option.bind_eq_some_iff.mp H
 obtain ⟨⟨t511, t512, t515⟩, A30, H⟩ := H
 try dsimp only at H
 have A3 := Aside0.mk A30
 clear A30
 by_cases c4 : t511 = 1
 ·rw [if_pos c4] at H
  have c4b0 := q1_ c4
  have c4b1 := q2_ c4
  clear c4
  replace H := Option.bind_eq_some_iff.mp H
  obtain ⟨t518, A50, H⟩ := H
  try dsimp only at H
  have A5 := Aside0.mk A50
  clear A50
  obtain rfl := Option.some.inj H
  go_enter Try.func75, Try.ntmps75
  go_wp2_with (first | ((with_reducible refine gate_callee (f := 95) rfl ?_); refine goesL_ (some 11) rfl rfl Try.func95 (by kernel_rfl) rfl #[.slice A0 l0.length c0] rfl mz_ ?_; (with_reducible refine (impl_split.calls k (fun k_ => (P0_ k_ ∨ w.heap.size ≤ k_)) _ _ l0 t511 t512 t515 _ ?side1 A3.out).mono ?_); (case side1 => exact HO0.out); rintro e w6 ⟨v513, v516, rfl, ho0, ho1, hb⟩; refine ⟨_, rfl, ?_⟩; have n0_ := Aside0.mk (Kd.V_below (vz_ HO0.out) hb); have n1_ := Aside0.mk (Kd.V_lower (Kd.V_mono (ok' := fun k_ => (P0_ k_ ∨ w.heap.size ≤ k_)) ho0 (fun k_ hk_ => Or.elim hk_ (fun hs_ => hs_) (fun hn_ => (.inr (Nat.le_trans (below_size bz_) hn_))))) (below_size bz_)); have n2_ := Aside0.mk (Kd.V_lower (Kd.V_mono (ok' := fun k_ => (P0_ k_ ∨ w.heap.size ≤ k_)) ho1 (fun k_ hk_ => Or.elim hk_ (fun hs_ => hs_) (fun hn_ => (.inr (Nat.le_trans (below_size bz_) hn_))))) (below_size bz_)); have n3_ := Aside0.mk (below_step bz_ hb); clear HO0; clear HB; have HO0 := n0_; have HO514 := n1_; have HO517 := n2_; have HB := n3_; clear n0_ n1_ n2_ n3_; (try clear ho0); (try clear ho1)) | ((with_reducible refine gate_callee (f := 108) rfl ?_); refine goesL_ (some 18) rfl rfl Try.func108 (by kernel_rfl) rfl #[] rfl mz_ ?_; (with_reducible refine (impl_nothing.calls  t518 _ A5.out).mono ?_); rintro e w7 ⟨v519, rfl, ho0, hb⟩; refine ⟨_, rfl, ?_⟩; have n0_ := Aside0.mk (Kd.V_elder' (vz_ HO0.out) (kb_ ho0) hb); have n1_ := Aside0.mk (Kd.V_elder' (vz_ HO514.out) (kb_ ho0) hb); have n2_ := Aside0.mk (Kd.V_elder' (vz_ HO517.out) (kb_ ho0) hb); have n3_ := Aside0.mk (Kd.N_lower (Kd.N_mono (ok' := fun k_ => (P0_ k_ ∨ w.heap.size ≤ k_)) (Kd.S_N (Kd.S_bound ho0)) (fun k_ hk_ => (.inr (Nat.le_trans (below_size bz_) hk_.2.1)))) (below_size bz_)); have n4_ := Aside0.mk (below_step bz_ hb); clear HO0; clear HO514; clear HO517; clear HB; have HO0 := n0_; have HO514 := n1_; have HO517 := n2_; have HO520 := n3_; have HB := n4_; clear n0_ n1_ n2_ n3_ n4_; (try clear ho0)))
  go_ret
  exact ⟨_, rr_, nz_ HO520.out, bz_⟩
 ·rw [if_neg c4] at H
  have c4b0 := q3_ c4
  have c4b1 := q4_ c4
  by_cases c8 : t511 = 2
  ·rw [if_pos c8] at H
   have c8b0 := q1_ c8
   have c8b1 := q2_ c8
   clear c8
   obtain ⟨ji9, hji9⟩ : ∃ j_ : Int, (wrap64 ((l0.length : Int) - 1)) = j_ := ⟨_, rfl⟩
   replace H : (if 0 ≤ (ji9) then (if (ji9) < (l0.length : Int) then ((impl_inSet.f k ((rd_T49 l0 (ji9)).f1) a1).bind fun t522 => (if t522 = true then ((impl_none.f).bind fun t523 => (some t523)) else ((impl_nothing.f).bind fun t526 => (some t526)))) else (none)) else (none)) = some r := jz_ hji9 H
   (try rw [hji9] at A3)
   have hji9w : (IntKind.i64.wrap ((l0.length : Int) - 1)) = ji9 := (i64_w _).trans hji9
   by_cases c10 : 0 ≤ (ji9)
   ·rw [if_pos c10] at H
    have c10b0 := decide_eq_true c10
    clear c10
    by_cases c11 : (ji9) < (l0.length : Int)
    ·rw [if_pos c11] at H
     have c11b0 := decide_eq_true c11
     clear c11
     replace H := Option.bind_eq_some_iff.mp H
     obtain ⟨t522, A120, H⟩ := H
     try dsimp only at H
     have A12 := Aside0.mk A120
     clear A120
     by_cases c13 : t522 = true
     ·subst c13
      have H1 := H
      rw [if_pos rfl] at H1
      clear H
      have H := H1
      clear H1
      replace H := Option.bind_eq_some_iff.mp H
      obtain ⟨t523, A140, H⟩ := H
      try dsimp only at H
      have A14 := Aside0.mk A140
      clear A140
      obtain rfl := Option.some.inj H
      go_enter Try.func75, Try.ntmps75
      go_wp2_with (first | ((with_reducible refine gate_callee (f := 95) rfl ?_); refine goesL_ (some 11) rfl rfl Try.func95 (by kernel_rfl) rfl #[.slice A0 l0.length c0] rfl mz_ ?_; (with_reducible refine (impl_split.calls k (fun k_ => (P0_ k_ ∨ w.heap.size ≤ k_)) _ _ l0 t511 t512 t515 _ ?side1 A3.out).mono ?_); (case side1 => exact HO0.out); rintro e w15 ⟨v513, v516, rfl, ho0, ho1, hb⟩; refine ⟨_, rfl, ?_⟩; have n0_ := Aside0.mk (Kd.V_below (vz_ HO0.out) hb); have n1_ := Aside0.mk (Kd.V_lower (Kd.V_mono (ok' := fun k_ => (P0_ k_ ∨ w.heap.size ≤ k_)) ho0 (fun k_ hk_ => Or.elim hk_ (fun hs_ => hs_) (fun hn_ => (.inr (Nat.le_trans (below_size bz_) hn_))))) (below_size bz_)); have n2_ := Aside0.mk (Kd.V_lower (Kd.V_mono (ok' := fun k_ => (P0_ k_ ∨ w.heap.size ≤ k_)) ho1 (fun k_ hk_ => Or.elim hk_ (fun hs_ => hs_) (fun hn_ => (.inr (Nat.le_trans (below_size bz_) hn_))))) (below_size bz_)); have n3_ := Aside0.mk (below_step bz_ hb); clear HO0; clear HB; have HO0 := n0_; have HO514 := n1_; have HO517 := n2_; have HB := n3_; clear n0_ n1_ n2_ n3_; (try clear ho0); (try clear ho1); have p521 : 0 ≤ ((ji9) : Int) := of_decide_eq_true az_; have q521 : (ji9) < (l0.length : Int) := of_decide_eq_true az_; obtain ⟨ad521, A521_1, c521_1, e521, hx521_0, hx521_1, hl521_1, hi521_1⟩ := at_T49 (Kd.V_reads' HO0.out).2.2 (ji9) p521 q521; cases e521; obtain ⟨ce521, hce521, hMe521, hcc521⟩ := Kd.V_get HO0.out z49 (ji9) p521 (by first | exact q521 | exact of_decide_eq_true az_ | (have e_ := (Kd.V_reads' HO0.out).1; omega)); obtain ⟨ua521_1, uc521_1, rfl, ul521_1, ge521_1⟩ := k49_openF hMe521; have hv521_1 := hcc521 1 _ rfl; rw [add_field _ _ 1 (by omega)] at hv521_1; replace hv521_1 := Option.some.inj (hv521_1.symm.trans hx521_1); injection hv521_1 with hva_ hvn_ hvc_; rw [hva_] at ge521_1; rw [hvc_] at ul521_1; have HL521_1 := Aside0.mk (show Kd.V (Kd.int .i64) 3 _ w.heap.size _ _ ((rd_T49 l0 (ji9)).f1) from Kd.V_mk ul521_1 ge521_1); clear hva_ hvn_ hvc_ ge521_1 ul521_1; clear hcc521 hce521; have HR521_1 := Aside0.mk hi521_1; have HC521_1 := Aside0.mk hl521_1; clear hi521_1 hl521_1; replace p521 := eq_true p521; replace q521 := eq_true q521) | ((with_reducible refine gate_callee (f := 103) rfl ?_); refine goesL_ (some 29) rfl rfl Try.func103 (by kernel_rfl) rfl #[.slice A521_1 ((rd_T49 l0 (ji9)).f1).length c521_1, .int .i64 a1] rfl (by (try simp only [List.map_toArray, List.map_cons, List.map_nil]); first | done | (simp only [hji9]; rfl) | rfl | (simp only [List.length_drop, List.length_take]; rfl)) ?_; (with_reducible refine (impl_inSet.calls k _ _ ((rd_T49 l0 (ji9)).f1) a1 true _ ?side1 ?side2 A12.out).mono ?_); (case side1 => repeat (first | exact (by repeat (first | (with_reducible exact HR521_1.out) | (with_reducible refine Kd.C_alloc ?_ _) | (with_reducible refine Kd.C_drewN ?_ _) | (with_reducible refine Kd.C_drew ?_) | exact HR521_1.out)) | (with_reducible refine Kd.C_alloc ?_ _) | (with_reducible refine Kd.C_drewN ?_ _) | (with_reducible refine Kd.C_drew ?_))); (case side2 => exact HC521_1.out); rintro e w16 ⟨rfl, hb⟩; refine ⟨_, rfl, ?_⟩; have n0_ := Aside0.mk (Kd.V_below (vz_ HO0.out) hb); have n1_ := Aside0.mk (Kd.V_below (vz_ HO514.out) hb); have n2_ := Aside0.mk (Kd.V_below (vz_ HO517.out) hb); have n3_ := Aside0.mk (Kd.V_below (vz_ HL521_1.out) hb); have n4_ := Aside0.mk (Kd.C_below (by repeat (first | (with_reducible exact HR521_1.out) | (with_reducible refine Kd.C_alloc ?_ _) | (with_reducible refine Kd.C_drewN ?_ _) | (with_reducible refine Kd.C_drew ?_) | exact HR521_1.out)) hb); have n5_ := Aside0.mk (below_step bz_ hb); clear HO0; clear HO514; clear HO517; clear HL521_1; clear HR521_1; clear HB; have HO0 := n0_; have HO514 := n1_; have HO517 := n2_; have HL521_1 := n3_; have HR521_1 := n4_; have HB := n5_; clear n0_ n1_ n2_ n3_ n4_ n5_; ) | ((with_reducible refine gate_callee (f := 89) rfl ?_); refine goesL_ (some 30) rfl rfl Try.func89 (by kernel_rfl) rfl #[] rfl mz_ ?_; (with_reducible refine (impl_none.calls  t523 _ A14.out).mono ?_); rintro e w17 ⟨v524, rfl, ho0, hb⟩; refine ⟨_, rfl, ?_⟩; have n0_ := Aside0.mk (Kd.V_elder' (vz_ HO0.out) (kb_ ho0) hb); have n1_ := Aside0.mk (Kd.V_elder' (vz_ HO514.out) (kb_ ho0) hb); have n2_ := Aside0.mk (Kd.V_elder' (vz_ HO517.out) (kb_ ho0) hb); have n3_ := Aside0.mk (Kd.V_elder' (vz_ HL521_1.out) (kb_ ho0) hb); have n4_ := Aside0.mk (Kd.N_lower (Kd.N_mono (ok' := fun k_ => (P0_ k_ ∨ w.heap.size ≤ k_)) (Kd.S_N (Kd.S_bound ho0)) (fun k_ hk_ => (.inr (Nat.le_trans (below_size bz_) hk_.2.1)))) (below_size bz_)); have n5_ := Aside0.mk (Kd.C_below (by repeat (first | (with_reducible exact HR521_1.out) | (with_reducible refine Kd.C_alloc ?_ _) | (with_reducible refine Kd.C_drewN ?_ _) | (with_reducible refine Kd.C_drew ?_) | exact HR521_1.out)) hb); have n6_ := Aside0.mk (below_step bz_ hb); clear HO0; clear HO514; clear HO517; clear HL521_1; clear HR521_1; clear HB; have HO0 := n0_; have HO514 := n1_; have HO517 := n2_; have HL521_1 := n3_; have HO525 := n4_; have HR521_1 := n5_; have HB := n6_; clear n0_ n1_ n2_ n3_ n4_ n5_ n6_; (try clear ho0)))
      go_ret
      exact ⟨_, by first | rfl | (simp [errW_none, errW_some] <;> rfl) | (simp only [← hji9]; first | rfl | (simp [errW_none, errW_some] <;> rfl)) | (simp [*, errW_none, errW_some] <;> rfl), nz_ HO525.out, bz_⟩
     ·replace c13 := Bool.eq_false_iff.mpr c13
      subst c13
      have H1 := H
      rw [if_neg (show ¬ (false = true) by decide)] at H1
      clear H
      have H := H1
      clear H1
      replace H := Option.bind_eq_some_iff.mp H
      obtain ⟨t526, A180, H⟩ := H
      try dsimp only at H
      have A18 := Aside0.mk A180
      clear A180
      obtain rfl := Option.some.inj H
      go_enter Try.func75, Try.ntmps75
      go_wp2_with (first | ((with_reducible refine gate_callee (f := 95) rfl ?_); refine goesL_ (some 11) rfl rfl Try.func95 (by kernel_rfl) rfl #[.slice A0 l0.length c0] rfl mz_ ?_; (with_reducible refine (impl_split.calls k (fun k_ => (P0_ k_ ∨ w.heap.size ≤ k_)) _ _ l0 t511 t512 t515 _ ?side1 A3.out).mono ?_); (case side1 => exact HO0.out); rintro e w19 ⟨v513, v516, rfl, ho0, ho1, hb⟩; refine ⟨_, rfl, ?_⟩; have n0_ := Aside0.mk (Kd.V_below (vz_ HO0.out) hb); have n1_ := Aside0.mk (Kd.V_lower (Kd.V_mono (ok' := fun k_ => (P0_ k_ ∨ w.heap.size ≤ k_)) ho0 (fun k_ hk_ => Or.elim hk_ (fun hs_ => hs_) (fun hn_ => (.inr (Nat.le_trans (below_size bz_) hn_))))) (below_size bz_)); have n2_ := Aside0.mk (Kd.V_lower (Kd.V_mono (ok' := fun k_ => (P0_ k_ ∨ w.heap.size ≤ k_)) ho1 (fun k_ hk_ => Or.elim hk_ (fun hs_ => hs_) (fun hn_ => (.inr (Nat.le_trans (below_size bz_) hn_))))) (below_size bz_)); have n3_ := Aside0.mk (below_step bz_ hb); clear HO0; clear HB; have HO0 := n0_; have HO514 := n1_; have HO517 := n2_; have HB := n3_; clear n0_ n1_ n2_ n3_; (try clear ho0); (try clear ho1); have p521 : 0 ≤ ((ji9) : Int) := of_decide_eq_true az_; have q521 : (ji9) < (l0.length : Int) := of_decide_eq_true az_; obtain ⟨ad521, A521_1, c521_1, e521, hx521_0, hx521_1, hl521_1, hi521_1⟩ := at_T49 (Kd.V_reads' HO0.out).2.2 (ji9) p521 q521; cases e521; obtain ⟨ce521, hce521, hMe521, hcc521⟩ := Kd.V_get HO0.out z49 (ji9) p521 (by first | exact q521 | exact of_decide_eq_true az_ | (have e_ := (Kd.V_reads' HO0.out).1; omega)); obtain ⟨ua521_1, uc521_1, rfl, ul521_1, ge521_1⟩ := k49_openF hMe521; have hv521_1 := hcc521 1 _ rfl; rw [add_field _ _ 1 (by omega)] at hv521_1; replace hv521_1 := Option.some.inj (hv521_1.symm.trans hx521_1); injection hv521_1 with hva_ hvn_ hvc_; rw [hva_] at ge521_1; rw [hvc_] at ul521_1; have HL521_1 := Aside0.mk (show Kd.V (Kd.int .i64) 3 _ w.heap.size _ _ ((rd_T49 l0 (ji9)).f1) from Kd.V_mk ul521_1 ge521_1); clear hva_ hvn_ hvc_ ge521_1 ul521_1; clear hcc521 hce521; have HR521_1 := Aside0.mk hi521_1; have HC521_1 := Aside0.mk hl521_1; clear hi521_1 hl521_1; replace p521 := eq_true p521; replace q521 := eq_true q521) | ((with_reducible refine gate_callee (f := 103) rfl ?_); refine goesL_ (some 29) rfl rfl Try.func103 (by kernel_rfl) rfl #[.slice A521_1 ((rd_T49 l0 (ji9)).f1).length c521_1, .int .i64 a1] rfl (by (try simp only [List.map_toArray, List.map_cons, List.map_nil]); first | done | (simp only [hji9]; rfl) | rfl | (simp only [List.length_drop, List.length_take]; rfl)) ?_; (with_reducible refine (impl_inSet.calls k _ _ ((rd_T49 l0 (ji9)).f1) a1 false _ ?side1 ?side2 A12.out).mono ?_); (case side1 => repeat (first | exact (by repeat (first | (with_reducible exact HR521_1.out) | (with_reducible refine Kd.C_alloc ?_ _) | (with_reducible refine Kd.C_drewN ?_ _) | (with_reducible refine Kd.C_drew ?_) | exact HR521_1.out)) | (with_reducible refine Kd.C_alloc ?_ _) | (with_reducible refine Kd.C_drewN ?_ _) | (with_reducible refine Kd.C_drew ?_))); (case side2 => exact HC521_1.out); rintro e w20 ⟨rfl, hb⟩; refine ⟨_, rfl, ?_⟩; have n0_ := Aside0.mk (Kd.V_below (vz_ HO0.out) hb); have n1_ := Aside0.mk (Kd.V_below (vz_ HO514.out) hb); have n2_ := Aside0.mk (Kd.V_below (vz_ HO517.out) hb); have n3_ := Aside0.mk (Kd.V_below (vz_ HL521_1.out) hb); have n4_ := Aside0.mk (Kd.C_below (by repeat (first | (with_reducible exact HR521_1.out) | (with_reducible refine Kd.C_alloc ?_ _) | (with_reducible refine Kd.C_drewN ?_ _) | (with_reducible refine Kd.C_drew ?_) | exact HR521_1.out)) hb); have n5_ := Aside0.mk (below_step bz_ hb); clear HO0; clear HO514; clear HO517; clear HL521_1; clear HR521_1; clear HB; have HO0 := n0_; have HO514 := n1_; have HO517 := n2_; have HL521_1 := n3_; have HR521_1 := n4_; have HB := n5_; clear n0_ n1_ n2_ n3_ n4_ n5_; ) | ((with_reducible refine gate_callee (f := 108) rfl ?_); refine goesL_ (some 31) rfl rfl Try.func108 (by kernel_rfl) rfl #[] rfl mz_ ?_; (with_reducible refine (impl_nothing.calls  t526 _ A18.out).mono ?_); rintro e w21 ⟨v527, rfl, ho0, hb⟩; refine ⟨_, rfl, ?_⟩; have n0_ := Aside0.mk (Kd.V_elder' (vz_ HO0.out) (kb_ ho0) hb); have n1_ := Aside0.mk (Kd.V_elder' (vz_ HO514.out) (kb_ ho0) hb); have n2_ := Aside0.mk (Kd.V_elder' (vz_ HO517.out) (kb_ ho0) hb); have n3_ := Aside0.mk (Kd.V_elder' (vz_ HL521_1.out) (kb_ ho0) hb); have n4_ := Aside0.mk (Kd.N_lower (Kd.N_mono (ok' := fun k_ => (P0_ k_ ∨ w.heap.size ≤ k_)) (Kd.S_N (Kd.S_bound ho0)) (fun k_ hk_ => (.inr (Nat.le_trans (below_size bz_) hk_.2.1)))) (below_size bz_)); have n5_ := Aside0.mk (Kd.C_below (by repeat (first | (with_reducible exact HR521_1.out) | (with_reducible refine Kd.C_alloc ?_ _) | (with_reducible refine Kd.C_drewN ?_ _) | (with_reducible refine Kd.C_drew ?_) | exact HR521_1.out)) hb); have n6_ := Aside0.mk (below_step bz_ hb); clear HO0; clear HO514; clear HO517; clear HL521_1; clear HR521_1; clear HB; have HO0 := n0_; have HO514 := n1_; have HO517 := n2_; have HL521_1 := n3_; have HO528 := n4_; have HR521_1 := n5_; have HB := n6_; clear n0_ n1_ n2_ n3_ n4_ n5_ n6_; (try clear ho0)))
      go_ret
      exact ⟨_, by first | rfl | (simp [errW_none, errW_some] <;> rfl) | (simp only [← hji9]; first | rfl | (simp [errW_none, errW_some] <;> rfl)) | (simp [*, errW_none, errW_some] <;> rfl), nz_ HO528.out, bz_⟩
    ·rw [if_neg c11] at H
     exact absurd H (by simp)
   ·rw [if_neg c10] at H
    exact absurd H (by simp)
  ·rw [if_neg c8] at H
   have c8b0 := q3_ c8
   have c8b1 := q4_ c8
   by_cases c22 : t511 = 6
   ·rw [if_pos c22] at H
    have c22b0 := q1_ c22
    have c22b1 := q2_ c22
    clear c22
    replace H := Option.bind_eq_some_iff.mp H
    obtain ⟨t529, A230, H⟩ := H
    try dsimp only at H
    have A23 := Aside0.mk A230
    clear A230
    obtain ⟨y532, hy532⟩ : ∃ y_ : List (List (S49)), y_ = (([t529, l0] : List (List (S49)))) := ⟨_, rfl⟩
    replace H : ((impl_node.f 3 y532).bind fun t535 => (some t535)) = some r := yz_ hy532 H
    have Ny532 := Aside0.mk hy532
    clear hy532
    replace H := Option.bind_eq_some_iff.mp H
    obtain ⟨t535, A240, H⟩ := H
    try dsimp only at H
    have A24 := Aside0.mk A240
    clear A240
    obtain rfl := Option.some.inj H
    go_enter Try.func75, Try.ntmps75
    go_wp2_with (first | ((with_reducible refine gate_callee (f := 95) rfl ?_); refine goesL_ (some 11) rfl rfl Try.func95 (by kernel_rfl) rfl #[.slice A0 l0.length c0] rfl mz_ ?_; (with_reducible refine (impl_split.calls k (fun k_ => (P0_ k_ ∨ w.heap.size ≤ k_)) _ _ l0 t511 t512 t515 _ ?side1 A3.out).mono ?_); (case side1 => exact HO0.out); rintro e w25 ⟨v513, v516, rfl, ho0, ho1, hb⟩; refine ⟨_, rfl, ?_⟩; have n0_ := Aside0.mk (Kd.V_below (vz_ HO0.out) hb); have n1_ := Aside0.mk (Kd.V_lower (Kd.V_mono (ok' := fun k_ => (P0_ k_ ∨ w.heap.size ≤ k_)) ho0 (fun k_ hk_ => Or.elim hk_ (fun hs_ => hs_) (fun hn_ => (.inr (Nat.le_trans (below_size bz_) hn_))))) (below_size bz_)); have n2_ := Aside0.mk (Kd.V_lower (Kd.V_mono (ok' := fun k_ => (P0_ k_ ∨ w.heap.size ≤ k_)) ho1 (fun k_ hk_ => Or.elim hk_ (fun hs_ => hs_) (fun hn_ => (.inr (Nat.le_trans (below_size bz_) hn_))))) (below_size bz_)); have n3_ := Aside0.mk (below_step bz_ hb); clear HO0; clear HB; have HO0 := n0_; have HO514 := n1_; have HO517 := n2_; have HB := n3_; clear n0_ n1_ n2_ n3_; (try clear ho0); (try clear ho1); obtain ⟨Ao26, co26, eo26⟩ := Kd.V_slice HO514.out; subst eo26) | ((with_reducible refine gate_callee (f := 75) rfl ?_); refine goesL_ (some 36) rfl rfl Try.func75 (by kernel_rfl) rfl #[.slice Ao26 t512.length co26, .int .i64 a1] rfl mz_ ?_; (with_reducible refine (ih k (by omega) (fun k_ => (P0_ k_ ∨ w.heap.size ≤ k_)) _ _ t512 a1 t529 _ ?side1 A23.out).mono ?_); (case side1 => exact HO514.out); rintro e w27 ⟨v530, rfl, ho0, hb⟩; refine ⟨_, rfl, ?_⟩; have n0_ := Aside0.mk (Kd.V_elder' (vz_ HO0.out) (kb_ ho0) hb); have n1_ := Aside0.mk (Kd.V_elder' (vz_ HO514.out) (kb_ ho0) hb); have n2_ := Aside0.mk (Kd.V_elder' (vz_ HO517.out) (kb_ ho0) hb); have n3_ := Aside0.mk (Kd.N_lower (Kd.N_mono (ok' := fun k_ => (P0_ k_ ∨ w.heap.size ≤ k_)) ho0 (fun k_ hk_ => Or.elim hk_ (fun hs_ => hs_) (fun hn_ => (.inr (Nat.le_trans (below_size bz_) hn_))))) (below_size bz_)); have n4_ := Aside0.mk (below_step bz_ hb); clear HO0; clear HO514; clear HO517; clear HB; have HO0 := n0_; have HO514 := n1_; have HO517 := n2_; have HO531 := n3_; have HB := n4_; clear n0_ n1_ n2_ n3_ n4_; (try clear ho0); obtain ⟨Ao28, co28, eo28⟩ := Kd.N_slice HO531.out; subst eo28) | ((with_reducible refine gate_dst (N := 38) rfl ?_); refine Kd.N_lit (Kd.slice 49 k49) _ 25 ?hg (N' := 38) ?hd (xs := ([t529, l0] : List (List (S49)))) (inner := [.slice Ao28 t529.length co28, .slice A0 l0.length c0]) (ok := (fun k_ => (P0_ k_ ∨ w.heap.size ≤ k_))) (okp := (fun k_ => (P0_ k_ ∨ w.heap.size ≤ k_))) ?hr ?hp (fun _ hk => hk) (by exact ((show ∀ k_, (_ : World).heap.size ≤ k_ → (fun k_ => (P0_ k_ ∨ w.heap.size ≤ k_)) k_ from fun k_ hk => (.inr (Nat.le_trans (below_size bz_) hk))) _ (Nat.le_refl _))) (Below.refl _ _) (Nat.le_refl _) (by simp) ?_; (case hd => rfl); (case hg => rfl); (case hr => first | (go_simp; done) | (go_simp; rfl)); (case hp => exact (Reps.one (show Kd.FK (Kd.slice 49 k49) _ _ t529 [.slice Ao28 t529.length co28] from (Kd.FK_slice_mk (Kd.N_reads' (Kd.N_mono (ok' := (fun k_ => (P0_ k_ ∨ w.heap.size ≤ k_))) (HO531.out) (fun k_ hk => hk))).2.1 (Kd.N_F (Kd.N_mono (ok' := (fun k_ => (P0_ k_ ∨ w.heap.size ≤ k_))) (HO531.out) (fun k_ hk => hk))))) (Reps.one (show Kd.FK (Kd.slice 49 k49) _ _ l0 [.slice A0 l0.length c0] from (Kd.FK_slice_mk (Kd.V_reads' (Kd.V_mono (ok' := (fun k_ => (P0_ k_ ∨ w.heap.size ≤ k_))) (HO0.out) (fun k_ hk => hk.1))).2.1 (Kd.V_F (Kd.V_mono (ok' := (fun k_ => (P0_ k_ ∨ w.heap.size ≤ k_))) (HO0.out) (fun k_ hk => hk.1))))) (Reps.none _ _)))); intro v533 w29 ho30 hb hg_ hnew_; clear hg_ hnew_; (first | rw [← Ny532.out] at ho30 | (simp only [Int.reduceToNat] at ho30; rw [← Ny532.out] at ho30)); have n0_ := Aside0.mk (Kd.V_elder' (vz_ HO0.out) (kb_ ho30) hb); have n1_ := Aside0.mk (Kd.V_elder' (vz_ HO514.out) (kb_ ho30) hb); have n2_ := Aside0.mk (Kd.V_elder' (vz_ HO517.out) (kb_ ho30) hb); have n3_ := Aside0.mk (Kd.N_lower ho30 (below_size bz_)); have n4_ := Aside0.mk (below_step bz_ hb); clear HO0; clear HO514; clear HO517; clear HB; clear HO531; have HO0 := n0_; have HO514 := n1_; have HO517 := n2_; have HO534 := n3_; have HB := n4_; clear n0_ n1_ n2_ n3_ n4_; clear hb ho30; obtain ⟨Ao31, co31, eo31⟩ := Kd.N_slice HO534.out; subst eo31) | ((with_reducible refine gate_callee (f := 90) rfl ?_); refine goesL_ (some 39) rfl rfl Try.func90 (by kernel_rfl) rfl #[.int .i64 3, .slice Ao31 y532.length co31] rfl mz_ ?_; (with_reducible refine (impl_node.calls 3 (fun k_ => (P0_ k_ ∨ w.heap.size ≤ k_)) _ _ y532 t535 _ ?side1 A24.out).mono ?_); (case side1 => exact Kd.N_V (HO534.out)); rintro e w32 ⟨v536, rfl, ho0, hb⟩; refine ⟨_, rfl, ?_⟩; have n0_ := Aside0.mk (Kd.V_elder' (vz_ HO0.out) (kb_ ho0) hb); have n1_ := Aside0.mk (Kd.V_elder' (vz_ HO514.out) (kb_ ho0) hb); have n2_ := Aside0.mk (Kd.V_elder' (vz_ HO517.out) (kb_ ho0) hb); have n3_ := Aside0.mk (Kd.N_elder' (nz_ HO534.out) (kb_ ho0) hb); have n4_ := Aside0.mk (Kd.N_lower (Kd.N_mono (ok' := fun k_ => (P0_ k_ ∨ w.heap.size ≤ k_)) ho0 (fun k_ hk_ => Or.elim hk_ (fun hs_ => hs_) (fun hn_ => (.inr (Nat.le_trans (below_size bz_) hn_))))) (below_size bz_)); have n5_ := Aside0.mk (below_step bz_ hb); clear HO0; clear HO514; clear HO517; clear HO534; clear HB; have HO0 := n0_; have HO514 := n1_; have HO517 := n2_; have HO534 := n3_; have HO537 := n4_; have HB := n5_; clear n0_ n1_ n2_ n3_ n4_ n5_; (try clear ho0)))
    go_ret
    exact ⟨_, rr_, nz_ HO537.out, bz_⟩
   ·rw [if_neg c22] at H
    have c22b0 := q3_ c22
    have c22b1 := q4_ c22
    by_cases c33 : t511 = 7
    ·rw [if_pos c33] at H
     have c33b0 := q1_ c33
     have c33b1 := q2_ c33
     clear c33
     replace H := Option.bind_eq_some_iff.mp H
     obtain ⟨t538, A340, H⟩ := H
     try dsimp only at H
     have A34 := Aside0.mk A340
     clear A340
     obtain ⟨y541, hy541⟩ : ∃ y_ : List (List (S49)), y_ = (([t538] : List (List (S49)))) := ⟨_, rfl⟩
     replace H : ((impl_node.f 7 y541).bind fun t544 => (some t544)) = some r := yz_ hy541 H
     have Ny541 := Aside0.mk hy541
     clear hy541
     replace H := Option.bind_eq_some_iff.mp H
     obtain ⟨t544, A350, H⟩ := H
     try dsimp only at H
     have A35 := Aside0.mk A350
     clear A350
     obtain rfl := Option.some.inj H
     go_enter Try.func75, Try.ntmps75
     go_wp2_with (first | ((with_reducible refine gate_callee (f := 95) rfl ?_); refine goesL_ (some 11) rfl rfl Try.func95 (by kernel_rfl) rfl #[.slice A0 l0.length c0] rfl mz_ ?_; (with_reducible refine (impl_split.calls k (fun k_ => (P0_ k_ ∨ w.heap.size ≤ k_)) _ _ l0 t511 t512 t515 _ ?side1 A3.out).mono ?_); (case side1 => exact HO0.out); rintro e w36 ⟨v513, v516, rfl, ho0, ho1, hb⟩; refine ⟨_, rfl, ?_⟩; have n0_ := Aside0.mk (Kd.V_below (vz_ HO0.out) hb); have n1_ := Aside0.mk (Kd.V_lower (Kd.V_mono (ok' := fun k_ => (P0_ k_ ∨ w.heap.size ≤ k_)) ho0 (fun k_ hk_ => Or.elim hk_ (fun hs_ => hs_) (fun hn_ => (.inr (Nat.le_trans (below_size bz_) hn_))))) (below_size bz_)); have n2_ := Aside0.mk (Kd.V_lower (Kd.V_mono (ok' := fun k_ => (P0_ k_ ∨ w.heap.size ≤ k_)) ho1 (fun k_ hk_ => Or.elim hk_ (fun hs_ => hs_) (fun hn_ => (.inr (Nat.le_trans (below_size bz_) hn_))))) (below_size bz_)); have n3_ := Aside0.mk (below_step bz_ hb); clear HO0; clear HB; have HO0 := n0_; have HO514 := n1_; have HO517 := n2_; have HB := n3_; clear n0_ n1_ n2_ n3_; (try clear ho0); (try clear ho1); obtain ⟨Ao37, co37, eo37⟩ := Kd.V_slice HO514.out; subst eo37) | ((with_reducible refine gate_callee (f := 75) rfl ?_); refine goesL_ (some 44) rfl rfl Try.func75 (by kernel_rfl) rfl #[.slice Ao37 t512.length co37, .int .i64 a1] rfl mz_ ?_; (with_reducible refine (ih k (by omega) (fun k_ => (P0_ k_ ∨ w.heap.size ≤ k_)) _ _ t512 a1 t538 _ ?side1 A34.out).mono ?_); (case side1 => exact HO514.out); rintro e w38 ⟨v539, rfl, ho0, hb⟩; refine ⟨_, rfl, ?_⟩; have n0_ := Aside0.mk (Kd.V_elder' (vz_ HO0.out) (kb_ ho0) hb); have n1_ := Aside0.mk (Kd.V_elder' (vz_ HO514.out) (kb_ ho0) hb); have n2_ := Aside0.mk (Kd.V_elder' (vz_ HO517.out) (kb_ ho0) hb); have n3_ := Aside0.mk (Kd.N_lower (Kd.N_mono (ok' := fun k_ => (P0_ k_ ∨ w.heap.size ≤ k_)) ho0 (fun k_ hk_ => Or.elim hk_ (fun hs_ => hs_) (fun hn_ => (.inr (Nat.le_trans (below_size bz_) hn_))))) (below_size bz_)); have n4_ := Aside0.mk (below_step bz_ hb); clear HO0; clear HO514; clear HO517; clear HB; have HO0 := n0_; have HO514 := n1_; have HO517 := n2_; have HO540 := n3_; have HB := n4_; clear n0_ n1_ n2_ n3_ n4_; (try clear ho0); obtain ⟨Ao39, co39, eo39⟩ := Kd.N_slice HO540.out; subst eo39) | ((with_reducible refine gate_dst (N := 45) rfl ?_); refine Kd.N_lit (Kd.slice 49 k49) _ 25 ?hg (N' := 45) ?hd (xs := ([t538] : List (List (S49)))) (inner := [.slice Ao39 t538.length co39]) (ok := (fun k_ => (P0_ k_ ∨ w.heap.size ≤ k_))) (okp := (fun k_ => (P0_ k_ ∨ w.heap.size ≤ k_))) ?hr ?hp (fun _ hk => hk) (by exact ((show ∀ k_, (_ : World).heap.size ≤ k_ → (fun k_ => (P0_ k_ ∨ w.heap.size ≤ k_)) k_ from fun k_ hk => (.inr (Nat.le_trans (below_size bz_) hk))) _ (Nat.le_refl _))) (Below.refl _ _) (Nat.le_refl _) (by simp) ?_; (case hd => rfl); (case hg => rfl); (case hr => first | (go_simp; done) | (go_simp; rfl)); (case hp => exact (Reps.one (show Kd.FK (Kd.slice 49 k49) _ _ t538 [.slice Ao39 t538.length co39] from (Kd.FK_slice_mk (Kd.N_reads' (Kd.N_mono (ok' := (fun k_ => (P0_ k_ ∨ w.heap.size ≤ k_))) (HO540.out) (fun k_ hk => hk))).2.1 (Kd.N_F (Kd.N_mono (ok' := (fun k_ => (P0_ k_ ∨ w.heap.size ≤ k_))) (HO540.out) (fun k_ hk => hk))))) (Reps.none _ _))); intro v542 w40 ho41 hb hg_ hnew_; clear hg_ hnew_; (first | rw [← Ny541.out] at ho41 | (simp only [Int.reduceToNat] at ho41; rw [← Ny541.out] at ho41)); have n0_ := Aside0.mk (Kd.V_elder' (vz_ HO0.out) (kb_ ho41) hb); have n1_ := Aside0.mk (Kd.V_elder' (vz_ HO514.out) (kb_ ho41) hb); have n2_ := Aside0.mk (Kd.V_elder' (vz_ HO517.out) (kb_ ho41) hb); have n3_ := Aside0.mk (Kd.N_lower ho41 (below_size bz_)); have n4_ := Aside0.mk (below_step bz_ hb); clear HO0; clear HO514; clear HO517; clear HB; clear HO540; have HO0 := n0_; have HO514 := n1_; have HO517 := n2_; have HO543 := n3_; have HB := n4_; clear n0_ n1_ n2_ n3_ n4_; clear hb ho41; obtain ⟨Ao42, co42, eo42⟩ := Kd.N_slice HO543.out; subst eo42) | ((with_reducible refine gate_callee (f := 90) rfl ?_); refine goesL_ (some 46) rfl rfl Try.func90 (by kernel_rfl) rfl #[.int .i64 7, .slice Ao42 y541.length co42] rfl mz_ ?_; (with_reducible refine (impl_node.calls 7 (fun k_ => (P0_ k_ ∨ w.heap.size ≤ k_)) _ _ y541 t544 _ ?side1 A35.out).mono ?_); (case side1 => exact Kd.N_V (HO543.out)); rintro e w43 ⟨v545, rfl, ho0, hb⟩; refine ⟨_, rfl, ?_⟩; have n0_ := Aside0.mk (Kd.V_elder' (vz_ HO0.out) (kb_ ho0) hb); have n1_ := Aside0.mk (Kd.V_elder' (vz_ HO514.out) (kb_ ho0) hb); have n2_ := Aside0.mk (Kd.V_elder' (vz_ HO517.out) (kb_ ho0) hb); have n3_ := Aside0.mk (Kd.N_elder' (nz_ HO543.out) (kb_ ho0) hb); have n4_ := Aside0.mk (Kd.N_lower (Kd.N_mono (ok' := fun k_ => (P0_ k_ ∨ w.heap.size ≤ k_)) ho0 (fun k_ hk_ => Or.elim hk_ (fun hs_ => hs_) (fun hn_ => (.inr (Nat.le_trans (below_size bz_) hn_))))) (below_size bz_)); have n5_ := Aside0.mk (below_step bz_ hb); clear HO0; clear HO514; clear HO517; clear HO543; clear HB; have HO0 := n0_; have HO514 := n1_; have HO517 := n2_; have HO543 := n3_; have HO546 := n4_; have HB := n5_; clear n0_ n1_ n2_ n3_ n4_ n5_; (try clear ho0)))
     go_ret
     exact ⟨_, rr_, nz_ HO546.out, bz_⟩
    ·rw [if_neg c33] at H
     have c33b0 := q3_ c33
     have c33b1 := q4_ c33
     by_cases c44 : t511 = 3
     ·rw [if_pos c44] at H
      have c44b0 := q1_ c44
      have c44b1 := q2_ c44
      clear c44
      replace H := Option.bind_eq_some_iff.mp H
      obtain ⟨t547, A450, H⟩ := H
      try dsimp only at H
      have A45 := Aside0.mk A450
      clear A450
      obtain ⟨y550, hy550⟩ : ∃ y_ : List (List (S49)), y_ = (([t547, t515] : List (List (S49)))) := ⟨_, rfl⟩
      replace H : ((impl_node.f 3 y550).bind fun t553 => ((impl_isNullable.f k t512).bind fun t556 => (if t556 = true then ((impl_deriv.f k t515 a1).bind fun t557 => ((impl_node.f 4 (([t553, t557] : List (List (S49))))).bind fun t563 => (some t563))) else (some t553)))) = some r := yz_ hy550 H
      have Ny550 := Aside0.mk hy550
      clear hy550
      replace H := Option.bind_eq_some_iff.mp H
      obtain ⟨t553, A460, H⟩ := H
      try dsimp only at H
      have A46 := Aside0.mk A460
      clear A460
      replace H := Option.bind_eq_some_iff.mp H
      obtain ⟨t556, A470, H⟩ := H
      try dsimp only at H
      have A47 := Aside0.mk A470
      clear A470
      by_cases c48 : t556 = true
      ·subst c48
       have H1 := H
       rw [if_pos rfl] at H1
       clear H
       have H := H1
       clear H1
       replace H := Option.bind_eq_some_iff.mp H
       obtain ⟨t557, A490, H⟩ := H
       try dsimp only at H
       have A49 := Aside0.mk A490
       clear A490
       obtain ⟨y560, hy560⟩ : ∃ y_ : List (List (S49)), y_ = (([t553, t557] : List (List (S49)))) := ⟨_, rfl⟩
       replace H : ((impl_node.f 4 y560).bind fun t563 => (some t563)) = some r := yz_ hy560 H
       have Ny560 := Aside0.mk hy560
       clear hy560
       replace H := Option.bind_eq_some_iff.mp H
       obtain ⟨t563, A500, H⟩ := H
       try dsimp only at H
       have A50 := Aside0.mk A500
       clear A500
       obtain rfl := Option.some.inj H
       go_enter Try.func75, Try.ntmps75
       go_wp2_with (first | ((with_reducible refine gate_callee (f := 95) rfl ?_); refine goesL_ (some 11) rfl rfl Try.func95 (by kernel_rfl) rfl #[.slice A0 l0.length c0] rfl mz_ ?_; (with_reducible refine (impl_split.calls k (fun k_ => (P0_ k_ ∨ w.heap.size ≤ k_)) _ _ l0 t511 t512 t515 _ ?side1 A3.out).mono ?_); (case side1 => exact HO0.out); rintro e w51 ⟨v513, v516, rfl, ho0, ho1, hb⟩; refine ⟨_, rfl, ?_⟩; have n0_ := Aside0.mk (Kd.V_below (vz_ HO0.out) hb); have n1_ := Aside0.mk (Kd.V_lower (Kd.V_mono (ok' := fun k_ => (P0_ k_ ∨ w.heap.size ≤ k_)) ho0 (fun k_ hk_ => Or.elim hk_ (fun hs_ => hs_) (fun hn_ => (.inr (Nat.le_trans (below_size bz_) hn_))))) (below_size bz_)); have n2_ := Aside0.mk (Kd.V_lower (Kd.V_mono (ok' := fun k_ => (P0_ k_ ∨ w.heap.size ≤ k_)) ho1 (fun k_ hk_ => Or.elim hk_ (fun hs_ => hs_) (fun hn_ => (.inr (Nat.le_trans (below_size bz_) hn_))))) (below_size bz_)); have n3_ := Aside0.mk (below_step bz_ hb); clear HO0; clear HB; have HO0 := n0_; have HO514 := n1_; have HO517 := n2_; have HB := n3_; clear n0_ n1_ n2_ n3_; (try clear ho0); (try clear ho1); obtain ⟨Ao52, co52, eo52⟩ := Kd.V_slice HO514.out; subst eo52) | ((with_reducible refine gate_callee (f := 75) rfl ?_); refine goesL_ (some 51) rfl rfl Try.func75 (by kernel_rfl) rfl #[.slice Ao52 t512.length co52, .int .i64 a1] rfl mz_ ?_; (with_reducible refine (ih k (by omega) (fun k_ => (P0_ k_ ∨ w.heap.size ≤ k_)) _ _ t512 a1 t547 _ ?side1 A45.out).mono ?_); (case side1 => exact HO514.out); rintro e w53 ⟨v548, rfl, ho0, hb⟩; refine ⟨_, rfl, ?_⟩; have n0_ := Aside0.mk (Kd.V_elder' (vz_ HO0.out) (kb_ ho0) hb); have n1_ := Aside0.mk (Kd.V_elder' (vz_ HO514.out) (kb_ ho0) hb); have n2_ := Aside0.mk (Kd.V_elder' (vz_ HO517.out) (kb_ ho0) hb); have n3_ := Aside0.mk (Kd.N_lower (Kd.N_mono (ok' := fun k_ => (P0_ k_ ∨ w.heap.size ≤ k_)) ho0 (fun k_ hk_ => Or.elim hk_ (fun hs_ => hs_) (fun hn_ => (.inr (Nat.le_trans (below_size bz_) hn_))))) (below_size bz_)); have n4_ := Aside0.mk (below_step bz_ hb); clear HO0; clear HO514; clear HO517; clear HB; have HO0 := n0_; have HO514 := n1_; have HO517 := n2_; have HO549 := n3_; have HB := n4_; clear n0_ n1_ n2_ n3_ n4_; (try clear ho0); obtain ⟨Ao54, co54, eo54⟩ := Kd.N_slice HO549.out; subst eo54; obtain ⟨Ao55, co55, eo55⟩ := Kd.V_slice HO517.out; subst eo55) | ((with_reducible refine gate_dst (N := 53) rfl ?_); refine Kd.N_lit (Kd.slice 49 k49) _ 25 ?hg (N' := 53) ?hd (xs := ([t547, t515] : List (List (S49)))) (inner := [.slice Ao54 t547.length co54, .slice Ao55 t515.length co55]) (ok := (fun k_ => (P0_ k_ ∨ w.heap.size ≤ k_))) (okp := (fun k_ => (P0_ k_ ∨ w.heap.size ≤ k_))) ?hr ?hp (fun _ hk => hk) (by exact ((show ∀ k_, (_ : World).heap.size ≤ k_ → (fun k_ => (P0_ k_ ∨ w.heap.size ≤ k_)) k_ from fun k_ hk => (.inr (Nat.le_trans (below_size bz_) hk))) _ (Nat.le_refl _))) (Below.refl _ _) (Nat.le_refl _) (by simp) ?_; (case hd => rfl); (case hg => rfl); (case hr => first | (go_simp; done) | (go_simp; rfl)); (case hp => exact (Reps.one (show Kd.FK (Kd.slice 49 k49) _ _ t547 [.slice Ao54 t547.length co54] from (Kd.FK_slice_mk (Kd.N_reads' (Kd.N_mono (ok' := (fun k_ => (P0_ k_ ∨ w.heap.size ≤ k_))) (HO549.out) (fun k_ hk => hk))).2.1 (Kd.N_F (Kd.N_mono (ok' := (fun k_ => (P0_ k_ ∨ w.heap.size ≤ k_))) (HO549.out) (fun k_ hk => hk))))) (Reps.one (show Kd.FK (Kd.slice 49 k49) _ _ t515 [.slice Ao55 t515.length co55] from (Kd.FK_slice_mk (Kd.V_reads' (Kd.V_mono (ok' := (fun k_ => (P0_ k_ ∨ w.heap.size ≤ k_))) (HO517.out) (fun k_ hk => hk.1))).2.1 (Kd.V_F (Kd.V_mono (ok' := (fun k_ => (P0_ k_ ∨ w.heap.size ≤ k_))) (HO517.out) (fun k_ hk => hk.1))))) (Reps.none _ _)))); intro v551 w56 ho57 hb hg_ hnew_; clear hg_ hnew_; (first | rw [← Ny550.out] at ho57 | (simp only [Int.reduceToNat] at ho57; rw [← Ny550.out] at ho57)); have n0_ := Aside0.mk (Kd.V_elder' (vz_ HO0.out) (kb_ ho57) hb); have n1_ := Aside0.mk (Kd.V_elder' (vz_ HO514.out) (kb_ ho57) hb); have n2_ := Aside0.mk (Kd.V_elder' (vz_ HO517.out) (kb_ ho57) hb); have n3_ := Aside0.mk (Kd.N_lower ho57 (below_size bz_)); have n4_ := Aside0.mk (below_step bz_ hb); clear HO0; clear HO514; clear HO517; clear HB; clear HO549; have HO0 := n0_; have HO514 := n1_; have HO517 := n2_; have HO552 := n3_; have HB := n4_; clear n0_ n1_ n2_ n3_ n4_; clear hb ho57; obtain ⟨Ao58, co58, eo58⟩ := Kd.N_slice HO552.out; subst eo58) | ((with_reducible refine gate_callee (f := 90) rfl ?_); refine goesL_ (some 54) rfl rfl Try.func90 (by kernel_rfl) rfl #[.int .i64 3, .slice Ao58 y550.length co58] rfl mz_ ?_; (with_reducible refine (impl_node.calls 3 (fun k_ => (P0_ k_ ∨ w.heap.size ≤ k_)) _ _ y550 t553 _ ?side1 A46.out).mono ?_); (case side1 => exact Kd.N_V (HO552.out)); rintro e w59 ⟨v554, rfl, ho0, hb⟩; refine ⟨_, rfl, ?_⟩; have n0_ := Aside0.mk (Kd.V_elder' (vz_ HO0.out) (kb_ ho0) hb); have n1_ := Aside0.mk (Kd.V_elder' (vz_ HO514.out) (kb_ ho0) hb); have n2_ := Aside0.mk (Kd.V_elder' (vz_ HO517.out) (kb_ ho0) hb); have n3_ := Aside0.mk (Kd.N_elder' (nz_ HO552.out) (kb_ ho0) hb); have n4_ := Aside0.mk (Kd.N_lower (Kd.N_mono (ok' := fun k_ => (P0_ k_ ∨ w.heap.size ≤ k_)) ho0 (fun k_ hk_ => Or.elim hk_ (fun hs_ => hs_) (fun hn_ => (.inr (Nat.le_trans (below_size bz_) hn_))))) (below_size bz_)); have n5_ := Aside0.mk (below_step bz_ hb); clear HO0; clear HO514; clear HO517; clear HO552; clear HB; have HO0 := n0_; have HO514 := n1_; have HO517 := n2_; have HO552 := n3_; have HO555 := n4_; have HB := n5_; clear n0_ n1_ n2_ n3_ n4_ n5_; (try clear ho0)) | ((with_reducible refine gate_callee (f := 62) rfl ?_); refine goesL_ (some 56) rfl rfl Try.func62 (by kernel_rfl) rfl #[.slice Ao52 t512.length co52] rfl mz_ ?_; (with_reducible refine (impl_isNullable.calls k _ _ t512 true _ ?side1 ?side2 A47.out).mono ?_); (case side1 => repeat (first | exact (Kd.V_reads' HO514.out).2.2 | (with_reducible refine Kd.C_alloc ?_ _) | (with_reducible refine Kd.C_drewN ?_ _) | (with_reducible refine Kd.C_drew ?_))); (case side2 => exact (Kd.V_reads' HO514.out).2.1); rintro e w60 ⟨rfl, hb⟩; refine ⟨_, rfl, ?_⟩; have n0_ := Aside0.mk (Kd.V_below (vz_ HO0.out) hb); have n1_ := Aside0.mk (Kd.V_below (vz_ HO514.out) hb); have n2_ := Aside0.mk (Kd.V_below (vz_ HO517.out) hb); have n3_ := Aside0.mk (Kd.N_below (nz_ HO552.out) hb); have n4_ := Aside0.mk (Kd.N_below (nz_ HO555.out) hb); have n5_ := Aside0.mk (below_step bz_ hb); clear HO0; clear HO514; clear HO517; clear HO552; clear HO555; clear HB; have HO0 := n0_; have HO514 := n1_; have HO517 := n2_; have HO552 := n3_; have HO555 := n4_; have HB := n5_; clear n0_ n1_ n2_ n3_ n4_ n5_; ) | ((with_reducible refine gate_callee (f := 75) rfl ?_); refine goesL_ (some 60) rfl rfl Try.func75 (by kernel_rfl) rfl #[.slice Ao55 t515.length co55, .int .i64 a1] rfl mz_ ?_; (with_reducible refine (ih k (by omega) (fun k_ => ((((P0_ k_ ∨ w.heap.size ≤ k_) ∧ some k_ ≠ (.slice Ao54 t547.length co54 : Value).ownBlock) ∧ some k_ ≠ (.slice Ao58 y550.length co58 : Value).ownBlock) ∧ some k_ ≠ (v554 : Value).ownBlock)) _ _ t515 a1 t557 _ ?side1 A49.out).mono ?_); (case side1 => exact HO517.out); rintro e w61 ⟨v558, rfl, ho0, hb⟩; refine ⟨_, rfl, ?_⟩; have n0_ := Aside0.mk (Kd.V_elder' (vz_ HO0.out) (kb_ ho0) hb); have n1_ := Aside0.mk (Kd.V_elder' (vz_ HO514.out) (kb_ ho0) hb); have n2_ := Aside0.mk (Kd.V_elder' (vz_ HO517.out) (kb_ ho0) hb); have n3_ := Aside0.mk (Kd.N_elder' (nz_ HO552.out) (kb_ ho0) hb); have n4_ := Aside0.mk (Kd.N_elder' (nz_ HO555.out) (kb_ ho0) hb); have n5_ := Aside0.mk (Kd.N_lower (Kd.N_mono (ok' := fun k_ => (P0_ k_ ∨ w.heap.size ≤ k_) ∧ some k_ ≠ (.slice Ao58 y550.length co58 : Value).ownBlock ∧ some k_ ≠ (v554 : Value).ownBlock) ho0 (fun k_ hk_ => ⟨Or.elim hk_ (fun hs_ => hs_.1.1.1) (fun hn_ => (.inr (Nat.le_trans (below_size bz_) hn_))), Or.elim hk_ (fun hs_ => hs_.1.2) (fun hn_ => (Kd.fresh' (Kd.N_lt (nz_ HO552.out)) k_ hn_)), Or.elim hk_ (fun hs_ => hs_.2) (fun hn_ => (Kd.fresh' (Kd.N_lt (nz_ HO555.out)) k_ hn_))⟩)) (below_size bz_)); have n6_ := Aside0.mk (below_step bz_ hb); clear HO0; clear HO514; clear HO517; clear HO552; clear HO555; clear HB; have HO0 := n0_; have HO514 := n1_; have HO517 := n2_; have HO552 := n3_; have HO555 := n4_; have HO559 := n5_; have HB := n6_; clear n0_ n1_ n2_ n3_ n4_ n5_ n6_; (try clear ho0); obtain ⟨Ao62, co62, eo62⟩ := Kd.N_slice HO555.out; subst eo62; obtain ⟨Ao63, co63, eo63⟩ := Kd.N_slice HO559.out; subst eo63) | ((with_reducible refine gate_dst (N := 61) rfl ?_); refine Kd.N_lit (Kd.slice 49 k49) _ 25 ?hg (N' := 61) ?hd (xs := ([t553, t557] : List (List (S49)))) (inner := [.slice Ao62 t553.length co62, .slice Ao63 t557.length co63]) (ok := (fun k_ => (P0_ k_ ∨ w.heap.size ≤ k_))) (okp := (fun k_ => (P0_ k_ ∨ w.heap.size ≤ k_))) ?hr ?hp (fun _ hk => hk) (by exact ((show ∀ k_, (_ : World).heap.size ≤ k_ → (fun k_ => (P0_ k_ ∨ w.heap.size ≤ k_)) k_ from fun k_ hk => (.inr (Nat.le_trans (below_size bz_) hk))) _ (Nat.le_refl _))) (Below.refl _ _) (Nat.le_refl _) (by simp) ?_; (case hd => rfl); (case hg => rfl); (case hr => first | (go_simp; done) | (go_simp; rfl)); (case hp => exact (Reps.one (show Kd.FK (Kd.slice 49 k49) _ _ t553 [.slice Ao62 t553.length co62] from (Kd.FK_slice_mk (Kd.N_reads' (Kd.N_mono (ok' := (fun k_ => (P0_ k_ ∨ w.heap.size ≤ k_))) (HO555.out) (fun k_ hk => hk.1))).2.1 (Kd.N_F (Kd.N_mono (ok' := (fun k_ => (P0_ k_ ∨ w.heap.size ≤ k_))) (HO555.out) (fun k_ hk => hk.1))))) (Reps.one (show Kd.FK (Kd.slice 49 k49) _ _ t557 [.slice Ao63 t557.length co63] from (Kd.FK_slice_mk (Kd.N_reads' (Kd.N_mono (ok' := (fun k_ => (P0_ k_ ∨ w.heap.size ≤ k_))) (HO559.out) (fun k_ hk => hk.1))).2.1 (Kd.N_F (Kd.N_mono (ok' := (fun k_ => (P0_ k_ ∨ w.heap.size ≤ k_))) (HO559.out) (fun k_ hk => hk.1))))) (Reps.none _ _)))); intro v561 w64 ho65 hb hg_ hnew_; clear hg_ hnew_; (first | rw [← Ny560.out] at ho65 | (simp only [Int.reduceToNat] at ho65; rw [← Ny560.out] at ho65)); have n0_ := Aside0.mk (Kd.V_elder' (vz_ HO0.out) (kb_ ho65) hb); have n1_ := Aside0.mk (Kd.V_elder' (vz_ HO514.out) (kb_ ho65) hb); have n2_ := Aside0.mk (Kd.V_elder' (vz_ HO517.out) (kb_ ho65) hb); have n3_ := Aside0.mk (Kd.N_elder' (nz_ HO552.out) (kb_ ho65) hb); have n4_ := Aside0.mk (Kd.N_lower ho65 (below_size bz_)); have n5_ := Aside0.mk (below_step bz_ hb); clear HO0; clear HO514; clear HO517; clear HO552; clear HB; clear HO555; clear HO559; have HO0 := n0_; have HO514 := n1_; have HO517 := n2_; have HO552 := n3_; have HO562 := n4_; have HB := n5_; clear n0_ n1_ n2_ n3_ n4_ n5_; clear hb ho65; obtain ⟨Ao66, co66, eo66⟩ := Kd.N_slice HO562.out; subst eo66) | ((with_reducible refine gate_callee (f := 90) rfl ?_); refine goesL_ (some 62) rfl rfl Try.func90 (by kernel_rfl) rfl #[.int .i64 4, .slice Ao66 y560.length co66] rfl mz_ ?_; (with_reducible refine (impl_node.calls 4 (fun k_ => (P0_ k_ ∨ w.heap.size ≤ k_)) _ _ y560 t563 _ ?side1 A50.out).mono ?_); (case side1 => exact Kd.N_V (HO562.out)); rintro e w67 ⟨v564, rfl, ho0, hb⟩; refine ⟨_, rfl, ?_⟩; have n0_ := Aside0.mk (Kd.V_elder' (vz_ HO0.out) (kb_ ho0) hb); have n1_ := Aside0.mk (Kd.V_elder' (vz_ HO514.out) (kb_ ho0) hb); have n2_ := Aside0.mk (Kd.V_elder' (vz_ HO517.out) (kb_ ho0) hb); have n3_ := Aside0.mk (Kd.N_elder' (nz_ HO552.out) (kb_ ho0) hb); have n4_ := Aside0.mk (Kd.N_elder' (nz_ HO562.out) (kb_ ho0) hb); have n5_ := Aside0.mk (Kd.N_lower (Kd.N_mono (ok' := fun k_ => (P0_ k_ ∨ w.heap.size ≤ k_)) ho0 (fun k_ hk_ => Or.elim hk_ (fun hs_ => hs_) (fun hn_ => (.inr (Nat.le_trans (below_size bz_) hn_))))) (below_size bz_)); have n6_ := Aside0.mk (below_step bz_ hb); clear HO0; clear HO514; clear HO517; clear HO552; clear HO562; clear HB; have HO0 := n0_; have HO514 := n1_; have HO517 := n2_; have HO552 := n3_; have HO562 := n4_; have HO565 := n5_; have HB := n6_; clear n0_ n1_ n2_ n3_ n4_ n5_ n6_; (try clear ho0)))
       go_ret
       exact ⟨_, rr_, nz_ HO565.out, bz_⟩
      ·replace c48 := Bool.eq_false_iff.mpr c48
       subst c48
       have H1 := H
       rw [if_neg (show ¬ (false = true) by decide)] at H1
       clear H
       have H := H1
       clear H1
       obtain rfl := Option.some.inj H
       go_enter Try.func75, Try.ntmps75
       go_wp2_with (first | ((with_reducible refine gate_callee (f := 95) rfl ?_); refine goesL_ (some 11) rfl rfl Try.func95 (by kernel_rfl) rfl #[.slice A0 l0.length c0] rfl mz_ ?_; (with_reducible refine (impl_split.calls k (fun k_ => (P0_ k_ ∨ w.heap.size ≤ k_)) _ _ l0 t511 t512 t515 _ ?side1 A3.out).mono ?_); (case side1 => exact HO0.out); rintro e w68 ⟨v513, v516, rfl, ho0, ho1, hb⟩; refine ⟨_, rfl, ?_⟩; have n0_ := Aside0.mk (Kd.V_below (vz_ HO0.out) hb); have n1_ := Aside0.mk (Kd.V_lower (Kd.V_mono (ok' := fun k_ => (P0_ k_ ∨ w.heap.size ≤ k_)) ho0 (fun k_ hk_ => Or.elim hk_ (fun hs_ => hs_) (fun hn_ => (.inr (Nat.le_trans (below_size bz_) hn_))))) (below_size bz_)); have n2_ := Aside0.mk (Kd.V_lower (Kd.V_mono (ok' := fun k_ => (P0_ k_ ∨ w.heap.size ≤ k_)) ho1 (fun k_ hk_ => Or.elim hk_ (fun hs_ => hs_) (fun hn_ => (.inr (Nat.le_trans (below_size bz_) hn_))))) (below_size bz_)); have n3_ := Aside0.mk (below_step bz_ hb); clear HO0; clear HB; have HO0 := n0_; have HO514 := n1_; have HO517 := n2_; have HB := n3_; clear n0_ n1_ n2_ n3_; (try clear ho0); (try clear ho1); obtain ⟨Ao69, co69, eo69⟩ := Kd.V_slice HO514.out; subst eo69) | ((with_reducible refine gate_callee (f := 75) rfl ?_); refine goesL_ (some 51) rfl rfl Try.func75 (by kernel_rfl) rfl #[.slice Ao69 t512.length co69, .int .i64 a1] rfl mz_ ?_; (with_reducible refine (ih k (by omega) (fun k_ => (P0_ k_ ∨ w.heap.size ≤ k_)) _ _ t512 a1 t547 _ ?side1 A45.out).mono ?_); (case side1 => exact HO514.out); rintro e w70 ⟨v548, rfl, ho0, hb⟩; refine ⟨_, rfl, ?_⟩; have n0_ := Aside0.mk (Kd.V_elder' (vz_ HO0.out) (kb_ ho0) hb); have n1_ := Aside0.mk (Kd.V_elder' (vz_ HO514.out) (kb_ ho0) hb); have n2_ := Aside0.mk (Kd.V_elder' (vz_ HO517.out) (kb_ ho0) hb); have n3_ := Aside0.mk (Kd.N_lower (Kd.N_mono (ok' := fun k_ => (P0_ k_ ∨ w.heap.size ≤ k_)) ho0 (fun k_ hk_ => Or.elim hk_ (fun hs_ => hs_) (fun hn_ => (.inr (Nat.le_trans (below_size bz_) hn_))))) (below_size bz_)); have n4_ := Aside0.mk (below_step bz_ hb); clear HO0; clear HO514; clear HO517; clear HB; have HO0 := n0_; have HO514 := n1_; have HO517 := n2_; have HO549 := n3_; have HB := n4_; clear n0_ n1_ n2_ n3_ n4_; (try clear ho0); obtain ⟨Ao71, co71, eo71⟩ := Kd.N_slice HO549.out; subst eo71; obtain ⟨Ao72, co72, eo72⟩ := Kd.V_slice HO517.out; subst eo72) | ((with_reducible refine gate_dst (N := 53) rfl ?_); refine Kd.N_lit (Kd.slice 49 k49) _ 25 ?hg (N' := 53) ?hd (xs := ([t547, t515] : List (List (S49)))) (inner := [.slice Ao71 t547.length co71, .slice Ao72 t515.length co72]) (ok := (fun k_ => (P0_ k_ ∨ w.heap.size ≤ k_))) (okp := (fun k_ => (P0_ k_ ∨ w.heap.size ≤ k_))) ?hr ?hp (fun _ hk => hk) (by exact ((show ∀ k_, (_ : World).heap.size ≤ k_ → (fun k_ => (P0_ k_ ∨ w.heap.size ≤ k_)) k_ from fun k_ hk => (.inr (Nat.le_trans (below_size bz_) hk))) _ (Nat.le_refl _))) (Below.refl _ _) (Nat.le_refl _) (by simp) ?_; (case hd => rfl); (case hg => rfl); (case hr => first | (go_simp; done) | (go_simp; rfl)); (case hp => exact (Reps.one (show Kd.FK (Kd.slice 49 k49) _ _ t547 [.slice Ao71 t547.length co71] from (Kd.FK_slice_mk (Kd.N_reads' (Kd.N_mono (ok' := (fun k_ => (P0_ k_ ∨ w.heap.size ≤ k_))) (HO549.out) (fun k_ hk => hk))).2.1 (Kd.N_F (Kd.N_mono (ok' := (fun k_ => (P0_ k_ ∨ w.heap.size ≤ k_))) (HO549.out) (fun k_ hk => hk))))) (Reps.one (show Kd.FK (Kd.slice 49 k49) _ _ t515 [.slice Ao72 t515.length co72] from (Kd.FK_slice_mk (Kd.V_reads' (Kd.V_mono (ok' := (fun k_ => (P0_ k_ ∨ w.heap.size ≤ k_))) (HO517.out) (fun k_ hk => hk.1))).2.1 (Kd.V_F (Kd.V_mono (ok' := (fun k_ => (P0_ k_ ∨ w.heap.size ≤ k_))) (HO517.out) (fun k_ hk => hk.1))))) (Reps.none _ _)))); intro v551 w73 ho74 hb hg_ hnew_; clear hg_ hnew_; (first | rw [← Ny550.out] at ho74 | (simp only [Int.reduceToNat] at ho74; rw [← Ny550.out] at ho74)); have n0_ := Aside0.mk (Kd.V_elder' (vz_ HO0.out) (kb_ ho74) hb); have n1_ := Aside0.mk (Kd.V_elder' (vz_ HO514.out) (kb_ ho74) hb); have n2_ := Aside0.mk (Kd.V_elder' (vz_ HO517.out) (kb_ ho74) hb); have n3_ := Aside0.mk (Kd.N_lower ho74 (below_size bz_)); have n4_ := Aside0.mk (below_step bz_ hb); clear HO0; clear HO514; clear HO517; clear HB; clear HO549; have HO0 := n0_; have HO514 := n1_; have HO517 := n2_; have HO552 := n3_; have HB := n4_; clear n0_ n1_ n2_ n3_ n4_; clear hb ho74; obtain ⟨Ao75, co75, eo75⟩ := Kd.N_slice HO552.out; subst eo75) | ((with_reducible refine gate_callee (f := 90) rfl ?_); refine goesL_ (some 54) rfl rfl Try.func90 (by kernel_rfl) rfl #[.int .i64 3, .slice Ao75 y550.length co75] rfl mz_ ?_; (with_reducible refine (impl_node.calls 3 (fun k_ => (P0_ k_ ∨ w.heap.size ≤ k_)) _ _ y550 t553 _ ?side1 A46.out).mono ?_); (case side1 => exact Kd.N_V (HO552.out)); rintro e w76 ⟨v554, rfl, ho0, hb⟩; refine ⟨_, rfl, ?_⟩; have n0_ := Aside0.mk (Kd.V_elder' (vz_ HO0.out) (kb_ ho0) hb); have n1_ := Aside0.mk (Kd.V_elder' (vz_ HO514.out) (kb_ ho0) hb); have n2_ := Aside0.mk (Kd.V_elder' (vz_ HO517.out) (kb_ ho0) hb); have n3_ := Aside0.mk (Kd.N_elder' (nz_ HO552.out) (kb_ ho0) hb); have n4_ := Aside0.mk (Kd.N_lower (Kd.N_mono (ok' := fun k_ => (P0_ k_ ∨ w.heap.size ≤ k_)) ho0 (fun k_ hk_ => Or.elim hk_ (fun hs_ => hs_) (fun hn_ => (.inr (Nat.le_trans (below_size bz_) hn_))))) (below_size bz_)); have n5_ := Aside0.mk (below_step bz_ hb); clear HO0; clear HO514; clear HO517; clear HO552; clear HB; have HO0 := n0_; have HO514 := n1_; have HO517 := n2_; have HO552 := n3_; have HO555 := n4_; have HB := n5_; clear n0_ n1_ n2_ n3_ n4_ n5_; (try clear ho0)) | ((with_reducible refine gate_callee (f := 62) rfl ?_); refine goesL_ (some 56) rfl rfl Try.func62 (by kernel_rfl) rfl #[.slice Ao69 t512.length co69] rfl mz_ ?_; (with_reducible refine (impl_isNullable.calls k _ _ t512 false _ ?side1 ?side2 A47.out).mono ?_); (case side1 => repeat (first | exact (Kd.V_reads' HO514.out).2.2 | (with_reducible refine Kd.C_alloc ?_ _) | (with_reducible refine Kd.C_drewN ?_ _) | (with_reducible refine Kd.C_drew ?_))); (case side2 => exact (Kd.V_reads' HO514.out).2.1); rintro e w77 ⟨rfl, hb⟩; refine ⟨_, rfl, ?_⟩; have n0_ := Aside0.mk (Kd.V_below (vz_ HO0.out) hb); have n1_ := Aside0.mk (Kd.V_below (vz_ HO514.out) hb); have n2_ := Aside0.mk (Kd.V_below (vz_ HO517.out) hb); have n3_ := Aside0.mk (Kd.N_below (nz_ HO552.out) hb); have n4_ := Aside0.mk (Kd.N_below (nz_ HO555.out) hb); have n5_ := Aside0.mk (below_step bz_ hb); clear HO0; clear HO514; clear HO517; clear HO552; clear HO555; clear HB; have HO0 := n0_; have HO514 := n1_; have HO517 := n2_; have HO552 := n3_; have HO555 := n4_; have HB := n5_; clear n0_ n1_ n2_ n3_ n4_ n5_; ))
       go_ret
       exact ⟨_, rr_, nz_ HO555.out, bz_⟩
     ·rw [if_neg c44] at H
      have c44b0 := q3_ c44
      have c44b1 := q4_ c44
      replace H := Option.bind_eq_some_iff.mp H
      obtain ⟨t566, A780, H⟩ := H
      try dsimp only at H
      have A78 := Aside0.mk A780
      clear A780
      replace H := Option.bind_eq_some_iff.mp H
      obtain ⟨t569, A790, H⟩ := H
      try dsimp only at H
      have A79 := Aside0.mk A790
      clear A790
      obtain ⟨y572, hy572⟩ : ∃ y_ : List (List (S49)), y_ = (([t566, t569] : List (List (S49)))) := ⟨_, rfl⟩
      replace H : ((impl_node.f t511 y572).bind fun t575 => (some t575)) = some r := yz_ hy572 H
      have Ny572 := Aside0.mk hy572
      clear hy572
      replace H := Option.bind_eq_some_iff.mp H
      obtain ⟨t575, A800, H⟩ := H
      try dsimp only at H
      have A80 := Aside0.mk A800
      clear A800
      obtain rfl := Option.some.inj H
      go_enter Try.func75, Try.ntmps75
      go_wp2_with (first | ((with_reducible refine gate_callee (f := 95) rfl ?_); refine goesL_ (some 11) rfl rfl Try.func95 (by kernel_rfl) rfl #[.slice A0 l0.length c0] rfl mz_ ?_; (with_reducible refine (impl_split.calls k (fun k_ => (P0_ k_ ∨ w.heap.size ≤ k_)) _ _ l0 t511 t512 t515 _ ?side1 A3.out).mono ?_); (case side1 => exact HO0.out); rintro e w81 ⟨v513, v516, rfl, ho0, ho1, hb⟩; refine ⟨_, rfl, ?_⟩; have n0_ := Aside0.mk (Kd.V_below (vz_ HO0.out) hb); have n1_ := Aside0.mk (Kd.V_lower (Kd.V_mono (ok' := fun k_ => (P0_ k_ ∨ w.heap.size ≤ k_)) ho0 (fun k_ hk_ => Or.elim hk_ (fun hs_ => hs_) (fun hn_ => (.inr (Nat.le_trans (below_size bz_) hn_))))) (below_size bz_)); have n2_ := Aside0.mk (Kd.V_lower (Kd.V_mono (ok' := fun k_ => (P0_ k_ ∨ w.heap.size ≤ k_)) ho1 (fun k_ hk_ => Or.elim hk_ (fun hs_ => hs_) (fun hn_ => (.inr (Nat.le_trans (below_size bz_) hn_))))) (below_size bz_)); have n3_ := Aside0.mk (below_step bz_ hb); clear HO0; clear HB; have HO0 := n0_; have HO514 := n1_; have HO517 := n2_; have HB := n3_; clear n0_ n1_ n2_ n3_; (try clear ho0); (try clear ho1); obtain ⟨Ao82, co82, eo82⟩ := Kd.V_slice HO514.out; subst eo82) | ((with_reducible refine gate_callee (f := 75) rfl ?_); refine goesL_ (some 67) rfl rfl Try.func75 (by kernel_rfl) rfl #[.slice Ao82 t512.length co82, .int .i64 a1] rfl mz_ ?_; (with_reducible refine (ih k (by omega) (fun k_ => (P0_ k_ ∨ w.heap.size ≤ k_)) _ _ t512 a1 t566 _ ?side1 A78.out).mono ?_); (case side1 => exact HO514.out); rintro e w83 ⟨v567, rfl, ho0, hb⟩; refine ⟨_, rfl, ?_⟩; have n0_ := Aside0.mk (Kd.V_elder' (vz_ HO0.out) (kb_ ho0) hb); have n1_ := Aside0.mk (Kd.V_elder' (vz_ HO514.out) (kb_ ho0) hb); have n2_ := Aside0.mk (Kd.V_elder' (vz_ HO517.out) (kb_ ho0) hb); have n3_ := Aside0.mk (Kd.N_lower (Kd.N_mono (ok' := fun k_ => (P0_ k_ ∨ w.heap.size ≤ k_)) ho0 (fun k_ hk_ => Or.elim hk_ (fun hs_ => hs_) (fun hn_ => (.inr (Nat.le_trans (below_size bz_) hn_))))) (below_size bz_)); have n4_ := Aside0.mk (below_step bz_ hb); clear HO0; clear HO514; clear HO517; clear HB; have HO0 := n0_; have HO514 := n1_; have HO517 := n2_; have HO568 := n3_; have HB := n4_; clear n0_ n1_ n2_ n3_ n4_; (try clear ho0); obtain ⟨Ao84, co84, eo84⟩ := Kd.V_slice HO517.out; subst eo84) | ((with_reducible refine gate_callee (f := 75) rfl ?_); refine goesL_ (some 70) rfl rfl Try.func75 (by kernel_rfl) rfl #[.slice Ao84 t515.length co84, .int .i64 a1] rfl mz_ ?_; (with_reducible refine (ih k (by omega) (fun k_ => ((P0_ k_ ∨ w.heap.size ≤ k_) ∧ some k_ ≠ (v567 : Value).ownBlock)) _ _ t515 a1 t569 _ ?side1 A79.out).mono ?_); (case side1 => exact HO517.out); rintro e w85 ⟨v570, rfl, ho0, hb⟩; refine ⟨_, rfl, ?_⟩; have n0_ := Aside0.mk (Kd.V_elder' (vz_ HO0.out) (kb_ ho0) hb); have n1_ := Aside0.mk (Kd.V_elder' (vz_ HO514.out) (kb_ ho0) hb); have n2_ := Aside0.mk (Kd.V_elder' (vz_ HO517.out) (kb_ ho0) hb); have n3_ := Aside0.mk (Kd.N_elder' (nz_ HO568.out) (kb_ ho0) hb); have n4_ := Aside0.mk (Kd.N_lower (Kd.N_mono (ok' := fun k_ => (P0_ k_ ∨ w.heap.size ≤ k_) ∧ some k_ ≠ (v567 : Value).ownBlock) ho0 (fun k_ hk_ => ⟨Or.elim hk_ (fun hs_ => hs_.1) (fun hn_ => (.inr (Nat.le_trans (below_size bz_) hn_))), Or.elim hk_ (fun hs_ => hs_.2) (fun hn_ => (Kd.fresh' (Kd.N_lt (nz_ HO568.out)) k_ hn_))⟩)) (below_size bz_)); have n5_ := Aside0.mk (below_step bz_ hb); clear HO0; clear HO514; clear HO517; clear HO568; clear HB; have HO0 := n0_; have HO514 := n1_; have HO517 := n2_; have HO568 := n3_; have HO571 := n4_; have HB := n5_; clear n0_ n1_ n2_ n3_ n4_ n5_; (try clear ho0); obtain ⟨Ao86, co86, eo86⟩ := Kd.N_slice HO568.out; subst eo86; obtain ⟨Ao87, co87, eo87⟩ := Kd.N_slice HO571.out; subst eo87) | ((with_reducible refine gate_dst (N := 71) rfl ?_); refine Kd.N_lit (Kd.slice 49 k49) _ 25 ?hg (N' := 71) ?hd (xs := ([t566, t569] : List (List (S49)))) (inner := [.slice Ao86 t566.length co86, .slice Ao87 t569.length co87]) (ok := (fun k_ => (P0_ k_ ∨ w.heap.size ≤ k_))) (okp := (fun k_ => (P0_ k_ ∨ w.heap.size ≤ k_))) ?hr ?hp (fun _ hk => hk) (by exact ((show ∀ k_, (_ : World).heap.size ≤ k_ → (fun k_ => (P0_ k_ ∨ w.heap.size ≤ k_)) k_ from fun k_ hk => (.inr (Nat.le_trans (below_size bz_) hk))) _ (Nat.le_refl _))) (Below.refl _ _) (Nat.le_refl _) (by simp) ?_; (case hd => rfl); (case hg => rfl); (case hr => first | (go_simp; done) | (go_simp; rfl)); (case hp => exact (Reps.one (show Kd.FK (Kd.slice 49 k49) _ _ t566 [.slice Ao86 t566.length co86] from (Kd.FK_slice_mk (Kd.N_reads' (Kd.N_mono (ok' := (fun k_ => (P0_ k_ ∨ w.heap.size ≤ k_))) (HO568.out) (fun k_ hk => hk.1))).2.1 (Kd.N_F (Kd.N_mono (ok' := (fun k_ => (P0_ k_ ∨ w.heap.size ≤ k_))) (HO568.out) (fun k_ hk => hk.1))))) (Reps.one (show Kd.FK (Kd.slice 49 k49) _ _ t569 [.slice Ao87 t569.length co87] from (Kd.FK_slice_mk (Kd.N_reads' (Kd.N_mono (ok' := (fun k_ => (P0_ k_ ∨ w.heap.size ≤ k_))) (HO571.out) (fun k_ hk => hk.1))).2.1 (Kd.N_F (Kd.N_mono (ok' := (fun k_ => (P0_ k_ ∨ w.heap.size ≤ k_))) (HO571.out) (fun k_ hk => hk.1))))) (Reps.none _ _)))); intro v573 w88 ho89 hb hg_ hnew_; clear hg_ hnew_; (first | rw [← Ny572.out] at ho89 | (simp only [Int.reduceToNat] at ho89; rw [← Ny572.out] at ho89)); have n0_ := Aside0.mk (Kd.V_elder' (vz_ HO0.out) (kb_ ho89) hb); have n1_ := Aside0.mk (Kd.V_elder' (vz_ HO514.out) (kb_ ho89) hb); have n2_ := Aside0.mk (Kd.V_elder' (vz_ HO517.out) (kb_ ho89) hb); have n3_ := Aside0.mk (Kd.N_lower ho89 (below_size bz_)); have n4_ := Aside0.mk (below_step bz_ hb); clear HO0; clear HO514; clear HO517; clear HB; clear HO568; clear HO571; have HO0 := n0_; have HO514 := n1_; have HO517 := n2_; have HO574 := n3_; have HB := n4_; clear n0_ n1_ n2_ n3_ n4_; clear hb ho89; obtain ⟨Ao90, co90, eo90⟩ := Kd.N_slice HO574.out; subst eo90) | ((with_reducible refine gate_callee (f := 90) rfl ?_); refine goesL_ (some 72) rfl rfl Try.func90 (by kernel_rfl) rfl #[.int .i64 t511, .slice Ao90 y572.length co90] rfl mz_ ?_; (with_reducible refine (impl_node.calls t511 (fun k_ => (P0_ k_ ∨ w.heap.size ≤ k_)) _ _ y572 t575 _ ?side1 A80.out).mono ?_); (case side1 => exact Kd.N_V (HO574.out)); rintro e w91 ⟨v576, rfl, ho0, hb⟩; refine ⟨_, rfl, ?_⟩; have n0_ := Aside0.mk (Kd.V_elder' (vz_ HO0.out) (kb_ ho0) hb); have n1_ := Aside0.mk (Kd.V_elder' (vz_ HO514.out) (kb_ ho0) hb); have n2_ := Aside0.mk (Kd.V_elder' (vz_ HO517.out) (kb_ ho0) hb); have n3_ := Aside0.mk (Kd.N_elder' (nz_ HO574.out) (kb_ ho0) hb); have n4_ := Aside0.mk (Kd.N_lower (Kd.N_mono (ok' := fun k_ => (P0_ k_ ∨ w.heap.size ≤ k_)) ho0 (fun k_ hk_ => Or.elim hk_ (fun hs_ => hs_) (fun hn_ => (.inr (Nat.le_trans (below_size bz_) hn_))))) (below_size bz_)); have n5_ := Aside0.mk (below_step bz_ hb); clear HO0; clear HO514; clear HO517; clear HO574; clear HB; have HO0 := n0_; have HO514 := n1_; have HO517 := n2_; have HO574 := n3_; have HO577 := n4_; have HB := n5_; clear n0_ n1_ n2_ n3_ n4_ n5_; (try clear ho0)))
      go_ret
      exact ⟨_, rr_, nz_ HO577.out, bz_⟩

def impl_DerivRe.j0 : Nat → List (S49) → Int → Bool → Option ((List (S49)) × Bool)
 | 0, _, _, _ => none
 | k + 1, x0, x1, x14 => if x14 = true then (some (([] : List (S49)), false)) else ((impl_deriv.f k x0 x1).bind fun t580 => ((impl_GoodRe.f k t580).bind fun t583 => (if t583 = true then ((impl_tidy.f k t580).bind fun t584 => ((impl_clonePat.f k t584).bind fun t587 => (some (t587, true)))) else (some (([] : List (S49)), false)))))
def impl_DerivRe.f (k : Nat) (l0 : List (S49)) (a1 : Int) : Option ((List (S49)) × Bool) := (impl_GoodRe.f k l0).bind fun t578 => (if t578 = true then ((impl_GoodRune.f a1).bind fun t579 => (impl_DerivRe.j0 k l0 a1 (!t579))) else (impl_DerivRe.j0 k l0 a1 true))
theorem impl_DerivRe.calls (k : Nat) (P0_ : Nat → Prop) (A0 : Option Addr) (c0 : Nat) (l0 : List (S49)) (a1 : Int) (r1 : List (S49)) (r2 : Bool) (w : World) (hs0 : Kd.V k49 49 w w.heap.size (fun k_ => P0_ k_) (.slice A0 l0.length c0) l0) (h : impl_DerivRe.f k l0 a1 = some (r1, r2)) :
  Calls Try.prog 38 #[.slice A0 l0.length c0, .int .i64 a1] w fun e w' => ∃ v0_ : Value, e = .returned (.tuple #[v0_, .bool r2]) ∧ Kd.S k49 49 w' w.heap.size (fun _ => True) v0_ r1 ∧ Below w.heap.size w w' := by
 have HO0 := Aside0.mk (show Kd.V k49 49 w w.heap.size (fun k_ => (P0_ k_ ∨ w.heap.size ≤ k_)) (.slice A0 l0.length c0) l0 from Kd.V_mono hs0 (fun k_ hk => .inl hk))
 have HB := Aside0.mk (Below.refl w.heap.size w)
 have H : ((impl_GoodRe.f k l0).bind fun t578 => (if t578 = true then ((impl_GoodRune.f a1).bind fun t579 => (impl_DerivRe.j0 k l0 a1 (!t579))) else (impl_DerivRe.j0 k l0 a1 true))) = some (r1, r2) := h
 clear h
 have HC3 := Aside0.mk H
 clear H
 go_enter Try.func38, Try.ntmps38
 go_upto_region 1 with (fail)
 go_cut [14] (fun v14 wc => ∃ (kq : Nat) (x14_2 : Bool), v14 = .bool x14_2 ∧ Aside0 (impl_DerivRe.j0 kq l0 a1 x14_2 = some (r1, r2)) ∧ Aside0 (kq ≤ k) ∧ Aside0 (Kd.V k49 49 wc w.heap.size (fun k_ => (P0_ k_ ∨ w.heap.size ≤ k_)) (.slice A0 l0.length c0) l0) ∧ Aside0 (Below w.heap.size w wc))
 case first =>
  have H := HC3.out
  clear HC3
  replace H := Option.bind_eq_some_iff.mp H
  obtain ⟨t578, A40, H⟩ := H
  try dsimp only at H
  have A4 := Aside0.mk A40
  clear A40
  by_cases c5 : t578 = true
  ·subst c5
   have H1 := H
   rw [if_pos rfl] at H1
   clear H
   have H := H1
   clear H1
   replace H := Option.bind_eq_some_iff.mp H
   obtain ⟨t579, A60, H⟩ := H
   try dsimp only at H
   have A6 := Aside0.mk A60
   clear A60
   have H' := Aside0.mk H
   clear H
   go_wp2_with (first | ((with_reducible refine gate_callee (f := 16) rfl ?_); refine goesL_ (some 8) rfl rfl Try.func16 (by kernel_rfl) rfl #[.slice A0 l0.length c0] rfl mz_ ?_; (with_reducible refine (impl_GoodRe.calls k _ _ l0 true _ ?side1 ?side2 A4.out).mono ?_); (case side1 => repeat (first | exact (Kd.V_reads' HO0.out).2.2 | (with_reducible refine Kd.C_alloc ?_ _) | (with_reducible refine Kd.C_drewN ?_ _) | (with_reducible refine Kd.C_drew ?_))); (case side2 => exact (Kd.V_reads' HO0.out).2.1); rintro e w7 ⟨rfl, hb⟩; refine ⟨_, rfl, ?_⟩; have n0_ := Aside0.mk (Kd.V_below (vz_ HO0.out) hb); have n1_ := Aside0.mk (below_step bz_ hb); clear HO0; clear HB; have HO0 := n0_; have HB := n1_; clear n0_ n1_; ) | (go_at_call 50; (with_reducible refine (impl_GoodRune.calls a1 t579 _ A6.out).mono ?_); rintro e w' ⟨rfl, ⟨nd, rfl⟩⟩))
   go_meet
   case rel => exact ⟨_, (!t579), rs_, H', ⟨by first | omega | exact Nat.le_refl _⟩, ⟨by (with_reducible repeat (first | apply Kd.V_alloc | apply Kd.V_drewN | apply Kd.V_drew)); exact HO0.out⟩, ⟨bz_⟩⟩
  ·replace c5 := Bool.eq_false_iff.mpr c5
   subst c5
   have H1 := H
   rw [if_neg (show ¬ (false = true) by decide)] at H1
   clear H
   have H := H1
   clear H1
   have H' := Aside0.mk H
   clear H
   go_wp2_with (first | ((with_reducible refine gate_callee (f := 16) rfl ?_); refine goesL_ (some 8) rfl rfl Try.func16 (by kernel_rfl) rfl #[.slice A0 l0.length c0] rfl mz_ ?_; (with_reducible refine (impl_GoodRe.calls k _ _ l0 false _ ?side1 ?side2 A4.out).mono ?_); (case side1 => repeat (first | exact (Kd.V_reads' HO0.out).2.2 | (with_reducible refine Kd.C_alloc ?_ _) | (with_reducible refine Kd.C_drewN ?_ _) | (with_reducible refine Kd.C_drew ?_))); (case side2 => exact (Kd.V_reads' HO0.out).2.1); rintro e w8 ⟨rfl, hb⟩; refine ⟨_, rfl, ?_⟩; have n0_ := Aside0.mk (Kd.V_below (vz_ HO0.out) hb); have n1_ := Aside0.mk (below_step bz_ hb); clear HO0; clear HB; have HO0 := n0_; have HB := n1_; clear n0_ n1_; ))
   go_meet
   case rel => exact ⟨_, (true), rs_, H', ⟨by first | omega | exact Nat.le_refl _⟩, ⟨by (with_reducible repeat (first | apply Kd.V_alloc | apply Kd.V_drewN | apply Kd.V_drew)); exact HO0.out⟩, ⟨bz_⟩⟩
 case rest =>
  clear HC3
  try clear c1
  try clear p2
  try clear c3
  try clear c5
  obtain ⟨kq, x14_2, rfl, HA, HJ2, HO_0, HB⟩ := hcut
  cases kq with
  | zero => exact absurd HA.out (by simp [impl_DerivRe.j0])
  | succ kj2 =>
   have H := HA.out
   clear HA
   simp only [impl_DerivRe.j0] at H
   by_cases c9 : x14_2 = true
   ·subst c9
    have H1 := H
    rw [if_pos rfl] at H1
    clear H
    have H := H1
    clear H1
    simp only [Option.some.injEq, Prod.mk.injEq] at H
    obtain ⟨rfl, rfl⟩ := H
    go_wp2
    go_ret2
    exact ⟨_, rr_, by first | exact Kd.S_nil _ _ _ _ _ | exact Kd.N_nil _ _ _ _ _ | exact Kd.V_nil _ _ _ _ _ | exact Kd.R_nil _ _ _ _ _, bz_⟩
   ·replace c9 := Bool.eq_false_iff.mpr c9
    subst c9
    have H1 := H
    rw [if_neg (show ¬ (false = true) by decide)] at H1
    clear H
    have H := H1
    clear H1
    replace H := Option.bind_eq_some_iff.mp H
    obtain ⟨t580, A100, H⟩ := H
    try dsimp only at H
    have A10 := Aside0.mk A100
    clear A100
    replace H := Option.bind_eq_some_iff.mp H
    obtain ⟨t583, A110, H⟩ := H
    try dsimp only at H
    have A11 := Aside0.mk A110
    clear A110
    by_cases c12 : t583 = true
    ·subst c12
     have H1 := H
     rw [if_pos rfl] at H1
     clear H
     have H := H1
     clear H1
     replace H := Option.bind_eq_some_iff.mp H
     obtain ⟨t584, A130, H⟩ := H
     try dsimp only at H
     have A13 := Aside0.mk A130
     clear A130
     replace H := Option.bind_eq_some_iff.mp H
     obtain ⟨t587, A140, H⟩ := H
     try dsimp only at H
     have A14 := Aside0.mk A140
     clear A140
     simp only [Option.some.injEq, Prod.mk.injEq] at H
     obtain ⟨rfl, rfl⟩ := H
     go_wp2_with (first | ((with_reducible refine gate_callee (f := 75) rfl ?_); refine goesL_ (some 17) rfl rfl Try.func75 (by kernel_rfl) rfl #[.slice A0 l0.length c0, .int .i64 a1] rfl mz_ ?_; (with_reducible refine (impl_deriv.calls kj2 (fun k_ => (P0_ k_ ∨ w.heap.size ≤ k_)) _ _ l0 a1 t580 _ ?side1 A10.out).mono ?_); (case side1 => exact HO_0.out); rintro e w15 ⟨v581, rfl, ho0, hb⟩; refine ⟨_, rfl, ?_⟩; have n0_ := Aside0.mk (Kd.V_elder' (vz_ HO_0.out) (kb_ ho0) hb); have n1_ := Aside0.mk (Kd.N_lower (Kd.N_mono (ok' := fun k_ => (P0_ k_ ∨ w.heap.size ≤ k_)) ho0 (fun k_ hk_ => Or.elim hk_ (fun hs_ => hs_) (fun hn_ => (.inr (Nat.le_trans (below_size bz_) hn_))))) (below_size bz_)); have n2_ := Aside0.mk (below_step bz_ hb); clear HO_0; clear HB; have HO_0 := n0_; have HO582 := n1_; have HB := n2_; clear n0_ n1_ n2_; (try clear ho0); obtain ⟨Ao16, co16, eo16⟩ := Kd.N_slice HO582.out; subst eo16) | ((with_reducible refine gate_callee (f := 16) rfl ?_); refine goesL_ (some 19) rfl rfl Try.func16 (by kernel_rfl) rfl #[.slice Ao16 t580.length co16] rfl mz_ ?_; (with_reducible refine (impl_GoodRe.calls kj2 _ _ t580 true _ ?side1 ?side2 A11.out).mono ?_); (case side1 => repeat (first | exact (Kd.N_reads' HO582.out).2.2 | (with_reducible refine Kd.C_alloc ?_ _) | (with_reducible refine Kd.C_drewN ?_ _) | (with_reducible refine Kd.C_drew ?_))); (case side2 => exact (Kd.N_reads' HO582.out).2.1); rintro e w17 ⟨rfl, hb⟩; refine ⟨_, rfl, ?_⟩; have n0_ := Aside0.mk (Kd.V_below (vz_ HO_0.out) hb); have n1_ := Aside0.mk (Kd.N_below (nz_ HO582.out) hb); have n2_ := Aside0.mk (below_step bz_ hb); clear HO_0; clear HO582; clear HB; have HO_0 := n0_; have HO582 := n1_; have HB := n2_; clear n0_ n1_ n2_; ) | ((with_reducible refine gate_callee (f := 70) rfl ?_); refine goesL_ (some 22) rfl rfl Try.func70 (by kernel_rfl) rfl #[.slice Ao16 t580.length co16] rfl mz_ ?_; (with_reducible refine (impl_tidy.calls kj2 (fun k_ => (P0_ k_ ∨ w.heap.size ≤ k_)) _ _ t580 t584 _ ?side1 A13.out).mono ?_); (case side1 => exact Kd.N_V (HO582.out)); rintro e w18 ⟨v585, rfl, ho0, hb⟩; refine ⟨_, rfl, ?_⟩; have n0_ := Aside0.mk (Kd.V_below (vz_ HO_0.out) hb); have n1_ := Aside0.mk (Kd.N_below (nz_ HO582.out) hb); have n2_ := Aside0.mk (Kd.V_lower (Kd.V_mono (ok' := fun k_ => (P0_ k_ ∨ w.heap.size ≤ k_)) ho0 (fun k_ hk_ => Or.elim hk_ (fun hs_ => hs_) (fun hn_ => (.inr (Nat.le_trans (below_size bz_) hn_))))) (below_size bz_)); have n3_ := Aside0.mk (below_step bz_ hb); clear HO_0; clear HO582; clear HB; have HO_0 := n0_; have HO582 := n1_; have HO586 := n2_; have HB := n3_; clear n0_ n1_ n2_ n3_; (try clear ho0); obtain ⟨Ao19, co19, eo19⟩ := Kd.V_slice HO586.out; subst eo19) | ((with_reducible refine gate_callee (f := 69) rfl ?_); refine goesL_ (some 23) rfl rfl Try.func69 (by kernel_rfl) rfl #[.slice Ao19 t584.length co19] rfl mz_ ?_; (with_reducible refine (impl_clonePat.calls kj2 _ _ t584 t587 _ ?side1 ?side2 A14.out).mono ?_); (case side1 => repeat (first | exact (Kd.V_reads' HO586.out).2.2 | (with_reducible refine Kd.C_alloc ?_ _) | (with_reducible refine Kd.C_drewN ?_ _) | (with_reducible refine Kd.C_drew ?_))); (case side2 => exact (Kd.V_reads' HO586.out).2.1); rintro e w20 ⟨v588, rfl, ho0, hb⟩; refine ⟨_, rfl, ?_⟩; have HSS_ := Aside0.mk (Kd.S_lower ho0 (below_size bz_)); have n0_ := Aside0.mk (Kd.V_elder' (vz_ HO_0.out) (kb_ ho0) hb); have n1_ := Aside0.mk (Kd.N_elder' (nz_ HO582.out) (kb_ ho0) hb); have n2_ := Aside0.mk (Kd.V_elder' (vz_ HO586.out) (kb_ ho0) hb); have n3_ := Aside0.mk (Kd.N_lower (Kd.N_mono (ok' := fun k_ => (P0_ k_ ∨ w.heap.size ≤ k_) ∧ some k_ ≠ (.slice Ao16 t580.length co16 : Value).ownBlock) (Kd.S_N (Kd.S_bound ho0)) (fun k_ hk_ => ⟨(.inr (Nat.le_trans (below_size bz_) hk_.2.1)), (Kd.fresh' (Kd.N_lt (nz_ HO582.out)) k_ hk_.2.1)⟩)) (below_size bz_)); have n4_ := Aside0.mk (below_step bz_ hb); clear HO_0; clear HO582; clear HO586; clear HB; have HO_0 := n0_; have HO582 := n1_; have HO586 := n2_; have HO589 := n3_; have HB := n4_; clear n0_ n1_ n2_ n3_ n4_; (try clear ho0)))
     go_ret2
     exact ⟨_, rr_, sz_ HSS_.out, bz_⟩
    ·replace c12 := Bool.eq_false_iff.mpr c12
     subst c12
     have H1 := H
     rw [if_neg (show ¬ (false = true) by decide)] at H1
     clear H
     have H := H1
     clear H1
     simp only [Option.some.injEq, Prod.mk.injEq] at H
     obtain ⟨rfl, rfl⟩ := H
     go_wp2_with (first | ((with_reducible refine gate_callee (f := 75) rfl ?_); refine goesL_ (some 17) rfl rfl Try.func75 (by kernel_rfl) rfl #[.slice A0 l0.length c0, .int .i64 a1] rfl mz_ ?_; (with_reducible refine (impl_deriv.calls kj2 (fun k_ => (P0_ k_ ∨ w.heap.size ≤ k_)) _ _ l0 a1 t580 _ ?side1 A10.out).mono ?_); (case side1 => exact HO_0.out); rintro e w21 ⟨v581, rfl, ho0, hb⟩; refine ⟨_, rfl, ?_⟩; have n0_ := Aside0.mk (Kd.V_elder' (vz_ HO_0.out) (kb_ ho0) hb); have n1_ := Aside0.mk (Kd.N_lower (Kd.N_mono (ok' := fun k_ => (P0_ k_ ∨ w.heap.size ≤ k_)) ho0 (fun k_ hk_ => Or.elim hk_ (fun hs_ => hs_) (fun hn_ => (.inr (Nat.le_trans (below_size bz_) hn_))))) (below_size bz_)); have n2_ := Aside0.mk (below_step bz_ hb); clear HO_0; clear HB; have HO_0 := n0_; have HO582 := n1_; have HB := n2_; clear n0_ n1_ n2_; (try clear ho0); obtain ⟨Ao22, co22, eo22⟩ := Kd.N_slice HO582.out; subst eo22) | ((with_reducible refine gate_callee (f := 16) rfl ?_); refine goesL_ (some 19) rfl rfl Try.func16 (by kernel_rfl) rfl #[.slice Ao22 t580.length co22] rfl mz_ ?_; (with_reducible refine (impl_GoodRe.calls kj2 _ _ t580 false _ ?side1 ?side2 A11.out).mono ?_); (case side1 => repeat (first | exact (Kd.N_reads' HO582.out).2.2 | (with_reducible refine Kd.C_alloc ?_ _) | (with_reducible refine Kd.C_drewN ?_ _) | (with_reducible refine Kd.C_drew ?_))); (case side2 => exact (Kd.N_reads' HO582.out).2.1); rintro e w23 ⟨rfl, hb⟩; refine ⟨_, rfl, ?_⟩; have n0_ := Aside0.mk (Kd.V_below (vz_ HO_0.out) hb); have n1_ := Aside0.mk (Kd.N_below (nz_ HO582.out) hb); have n2_ := Aside0.mk (below_step bz_ hb); clear HO_0; clear HO582; clear HB; have HO_0 := n0_; have HO582 := n1_; have HB := n2_; clear n0_ n1_ n2_; ))
     go_ret2
     exact ⟨_, rr_, by first | exact Kd.S_nil _ _ _ _ _ | exact Kd.N_nil _ _ _ _ _ | exact Kd.V_nil _ _ _ _ _ | exact Kd.R_nil _ _ _ _ _, bz_⟩

end Go.Proofs.Ytlmpeaelpchokaa.HFnExactDerivRe
