/- Written by wip/pr.py of this session, for the law FnExactMatchesRe: Lean functions with the answers of the program's, and the proofs of that; where the kit's print has no word, by hand. -/
import Derived.Test.YtlmpeaelpchokaaHFnExactMatchesRex0
import Derived.Test.YtlmpeaelpchokaaHFnExactMatchesRex11
import Derived.Test.YtlmpeaelpchokaaHFnExactMatchesRex12
namespace Go.Proofs.Ytlmpeaelpchokaa.HFnExactMatchesRe
open Go.RowKit Go.Proofs.YtlmpeaelpchokaaW.PrintWords Go.Proofs.YtlmpeaelpchokaaW.PrintLast Go.Proofs.YtlmpeaelpchokaaW.PrintMore
attribute [local go_sem] max2_int min2_int max_two min_two max_three min_three max_four min_four   -- for this text's walks alone
set_option linter.unusedVariables false
set_option linter.unusedSimpArgs false

/-! ### impl_matcher_look: function 92 -/
/-- Some place from lo to hi fits. -/
def anyFT (lo hi : Nat) (f : Nat → Bool) : Bool := (List.range (hi + 1)).any fun m => decide (lo ≤ m) && f m
theorem anyFT_true {lo hi : Nat} {f : Nat → Bool} (m : Nat) (h1 : lo ≤ m) (h2 : m ≤ hi) (h : f m = true) : anyFT lo hi f = true := by
  unfold anyFT
  rw [List.any_eq_true]
  exact ⟨m, List.mem_range.2 (by omega), by rw [decide_eq_true h1, h]; rfl⟩
theorem anyFT_false {lo hi : Nat} {f : Nat → Bool} (h : ∀ m, lo ≤ m → m ≤ hi → f m = false) : anyFT lo hi f = false := by
  unfold anyFT
  rw [List.any_eq_false]
  intro m hm
  by_cases g : lo ≤ m
  · rw [h m g (by have := List.mem_range.1 hm; omega)]; simp
  · rw [decide_eq_false g]; simp
set_option maxHeartbeats 8000000 in
set_option maxRecDepth 100000 in
theorem look_nil (g : Nat) (p : List S49) (parts : List (List Int)) (l : List Int) (table : List (List (List Bool))) (n node a b : Nat) (w : World) (hM : MS w g p parts l table) (hD : Dims table n) (hl : l.length = n) (hn : node < p.length) (hq : node < parts.length) (hb : b ≤ n) (hab : a ≤ b) (hn1 : n ≤ 1000000) (hop : (rd_T49 p (node : Int)).f0 = 1) :
    Calls Try.prog 92 #[.pointer (some ⟨g, 0, none⟩), .int .i64 (node : Int), .int .i64 (a : Int), .int .i64 (b : Int)] w fun e w' => e = .returned (.bool (decide (a = b))) ∧ Below w.heap.size w w' := by
  have hM' := hM
  obtain ⟨A0, c0, A1, c1, A2, c2, A3, c3, HG, H0, H1, H2, H3⟩ := hM'
  have hcz0 : w.cell? ⟨g, 0, none⟩ = some (.slice A0 p.length c0) := (blk_cell HG 0).trans rfl
  have hcz1 : w.cell? ⟨g, 1, none⟩ = some (.slice A1 parts.length c1) := (blk_cell HG 1).trans rfl
  have hcz2 : w.cell? ⟨g, 2, none⟩ = some (.slice A2 l.length c2) := (blk_cell HG 2).trans rfl
  clear HG H3
  obtain ⟨ad1, A4, c4, e1, hx1, hl1, hi1⟩ := at_sl H1 node hq
  generalize parts.getD node [] = ks at *
  obtain ⟨ad2, A5, c5, e2, hy1, hy2, hl2, hi2⟩ := at_T49 H0 (node : Int) (by omega) (by omega)
  cases e1
  cases e2
  rw [Int.toNat_natCast] at hy1 hy2
  rw [show (rd_T49 p (node : Int)).f0 = 1 from hop] at hy1
  have r1 : decide (node < p.length) = true := decide_eq_true hn
  have r2 : decide (node < parts.length) = true := decide_eq_true hq
  clear hM hD H0 H1 H2 hi1 hi2 hl1 hl2 hop
  have e : decide (a = b) = ((a : Int) == (b : Int)) := by rw [Bool.eq_iff_iff, decide_eq_true_iff, beq_iff_eq]; omega
  rw [e]
  go_enter Try.func92, Try.ntmps92
  go_wp2
  go_ret
  exact ⟨by first | rfl | (simp; done), by repeat (first | (with_reducible first | exact Below.refl _ _ | apply pw_below_drewN | apply below_drew1 | apply below_alloc))⟩
set_option maxHeartbeats 8000000 in
set_option maxRecDepth 100000 in
theorem look_set_no (g : Nat) (p : List S49) (parts : List (List Int)) (l : List Int) (table : List (List (List Bool))) (n node a b : Nat) (w : World) (hM : MS w g p parts l table) (hD : Dims table n) (hl : l.length = n) (hn : node < p.length) (hq : node < parts.length) (hb : b ≤ n) (hab : a ≤ b) (hn1 : n ≤ 1000000) (hop : (rd_T49 p (node : Int)).f0 = 2) (hw : ¬ b = a + 1) :
    Calls Try.prog 92 #[.pointer (some ⟨g, 0, none⟩), .int .i64 (node : Int), .int .i64 (a : Int), .int .i64 (b : Int)] w fun e w' => e = .returned (.bool (false)) ∧ Below w.heap.size w w' := by
  have hM' := hM
  obtain ⟨A0, c0, A1, c1, A2, c2, A3, c3, HG, H0, H1, H2, H3⟩ := hM'
  have hcz0 : w.cell? ⟨g, 0, none⟩ = some (.slice A0 p.length c0) := (blk_cell HG 0).trans rfl
  have hcz1 : w.cell? ⟨g, 1, none⟩ = some (.slice A1 parts.length c1) := (blk_cell HG 1).trans rfl
  have hcz2 : w.cell? ⟨g, 2, none⟩ = some (.slice A2 l.length c2) := (blk_cell HG 2).trans rfl
  clear HG H3
  obtain ⟨ad1, A4, c4, e1, hx1, hl1, hi1⟩ := at_sl H1 node hq
  generalize parts.getD node [] = ks at *
  obtain ⟨ad2, A5, c5, e2, hy1, hy2, hl2, hi2⟩ := at_T49 H0 (node : Int) (by omega) (by omega)
  cases e1
  cases e2
  rw [Int.toNat_natCast] at hy1 hy2
  rw [show (rd_T49 p (node : Int)).f0 = 2 from hop] at hy1
  have r1 : decide (node < p.length) = true := decide_eq_true hn
  have r2 : decide (node < parts.length) = true := decide_eq_true hq
  clear hM hD H0 H1 H2 hi1 hi2 hl1 hl2 hop
  have t1 : IntKind.i64.wrap ((a : Int) + 1) = (a : Int) + 1 := by rw [IntKind.wrap_i64]; omega
  have t2 : ((b : Int) == (a : Int) + 1) = false := beq_eq_false_iff_ne.mpr (by omega)
  go_enter Try.func92, Try.ntmps92
  go_wp2
  go_quiet (fail)
  go_wp2
  go_ret
  exact ⟨rfl, by repeat (first | (with_reducible first | exact Below.refl _ _ | apply pw_below_drewN | apply below_drew1 | apply below_alloc))⟩
set_option maxHeartbeats 8000000 in
set_option maxRecDepth 100000 in
theorem look_or0 (g : Nat) (p : List S49) (parts : List (List Int)) (l : List Int) (table : List (List (List Bool))) (n node a b : Nat) (w : World) (hM : MS w g p parts l table) (hD : Dims table n) (hl : l.length = n) (hn : node < p.length) (hq : node < parts.length) (hb : b ≤ n) (hab : a ≤ b) (hn1 : n ≤ 1000000) (hop : (rd_T49 p (node : Int)).f0 = 4) (k0 k1 : Nat) (hk : 1 < (parts.getD node []).length) (h0 : rd (parts.getD node []) 0 = (k0 : Int)) (h1 : rd (parts.getD node []) 1 = (k1 : Int)) (g0 : k0 < table.length) (g1 : k1 < table.length) (v0 : hv table k0 a b = true) :
    Calls Try.prog 92 #[.pointer (some ⟨g, 0, none⟩), .int .i64 (node : Int), .int .i64 (a : Int), .int .i64 (b : Int)] w fun e w' => e = .returned (.bool (true)) ∧ Below w.heap.size w w' := by
  have hM' := hM
  obtain ⟨A0, c0, A1, c1, A2, c2, A3, c3, HG, H0, H1, H2, H3⟩ := hM'
  have hcz0 : w.cell? ⟨g, 0, none⟩ = some (.slice A0 p.length c0) := (blk_cell HG 0).trans rfl
  have hcz1 : w.cell? ⟨g, 1, none⟩ = some (.slice A1 parts.length c1) := (blk_cell HG 1).trans rfl
  have hcz2 : w.cell? ⟨g, 2, none⟩ = some (.slice A2 l.length c2) := (blk_cell HG 2).trans rfl
  clear HG H3
  obtain ⟨ad1, A4, c4, e1, hx1, hl1, hi1⟩ := at_sl H1 node hq
  generalize parts.getD node [] = ks at *
  obtain ⟨ad2, A5, c5, e2, hy1, hy2, hl2, hi2⟩ := at_T49 H0 (node : Int) (by omega) (by omega)
  cases e1
  cases e2
  rw [Int.toNat_natCast] at hy1 hy2
  rw [show (rd_T49 p (node : Int)).f0 = 4 from hop] at hy1
  have r1 : decide (node < p.length) = true := decide_eq_true hn
  have r2 : decide (node < parts.length) = true := decide_eq_true hq
  obtain ⟨ad3, e3, hk0⟩ := Kd.at_int hi1 0 (by omega) (by omega)
  cases e3
  rw [show ((0 : Int)).toNat = 0 from rfl, Addr.add_zero', show rd ks 0 = ((k0 : Nat) : Int) from h0] at hk0
  have s0 : decide ((0 : Int) < (ks.length : Int)) = true := decide_eq_true (by omega)
  have s0' : (0 : Nat) < ks.length := by omega
  obtain ⟨ad4, e4, hk1⟩ := Kd.at_int hi1 1 (by omega) (by omega)
  cases e4
  rw [show rd ks 1 = ((k1 : Nat) : Int) from h1] at hk1
  replace hk1 : w.cell? ⟨ad3.block, ad3.off + 1, none⟩ = some (.int .i64 ((k1 : Nat) : Int)) := hk1
  have s1 : decide ((1 : Int) < (ks.length : Int)) = true := decide_eq_true (by omega)
  have s1' : (1 : Nat) < ks.length := by omega
  have C0 := mhas.calls g p parts l table n k0 a b w hM hD g0 (by omega) hb
  rw [v0] at C0
  clear hM hD H0 H1 H2 hi1 hi2 hl1 hl2 hop hk h0 h1 v0
  go_enter Try.func92, Try.ntmps92
  go_wp2_with (first | (go_at_call 64; (with_reducible refine C0.mono ?_); rintro e w' ⟨rfl, rfl⟩))
  go_ret
  exact ⟨rfl, by repeat (first | (with_reducible first | exact Below.refl _ _ | apply pw_below_drewN | apply below_drew1 | apply below_alloc))⟩
set_option maxHeartbeats 8000000 in
set_option maxRecDepth 100000 in
theorem look_or1 (g : Nat) (p : List S49) (parts : List (List Int)) (l : List Int) (table : List (List (List Bool))) (n node a b : Nat) (w : World) (hM : MS w g p parts l table) (hD : Dims table n) (hl : l.length = n) (hn : node < p.length) (hq : node < parts.length) (hb : b ≤ n) (hab : a ≤ b) (hn1 : n ≤ 1000000) (hop : (rd_T49 p (node : Int)).f0 = 4) (k0 k1 : Nat) (hk : 1 < (parts.getD node []).length) (h0 : rd (parts.getD node []) 0 = (k0 : Int)) (h1 : rd (parts.getD node []) 1 = (k1 : Int)) (g0 : k0 < table.length) (g1 : k1 < table.length) (v0 : hv table k0 a b = false) (v1 : hv table k1 a b = true) :
    Calls Try.prog 92 #[.pointer (some ⟨g, 0, none⟩), .int .i64 (node : Int), .int .i64 (a : Int), .int .i64 (b : Int)] w fun e w' => e = .returned (.bool (true)) ∧ Below w.heap.size w w' := by
  have hM' := hM
  obtain ⟨A0, c0, A1, c1, A2, c2, A3, c3, HG, H0, H1, H2, H3⟩ := hM'
  have hcz0 : w.cell? ⟨g, 0, none⟩ = some (.slice A0 p.length c0) := (blk_cell HG 0).trans rfl
  have hcz1 : w.cell? ⟨g, 1, none⟩ = some (.slice A1 parts.length c1) := (blk_cell HG 1).trans rfl
  have hcz2 : w.cell? ⟨g, 2, none⟩ = some (.slice A2 l.length c2) := (blk_cell HG 2).trans rfl
  clear HG H3
  obtain ⟨ad1, A4, c4, e1, hx1, hl1, hi1⟩ := at_sl H1 node hq
  generalize parts.getD node [] = ks at *
  obtain ⟨ad2, A5, c5, e2, hy1, hy2, hl2, hi2⟩ := at_T49 H0 (node : Int) (by omega) (by omega)
  cases e1
  cases e2
  rw [Int.toNat_natCast] at hy1 hy2
  rw [show (rd_T49 p (node : Int)).f0 = 4 from hop] at hy1
  have r1 : decide (node < p.length) = true := decide_eq_true hn
  have r2 : decide (node < parts.length) = true := decide_eq_true hq
  obtain ⟨ad3, e3, hk0⟩ := Kd.at_int hi1 0 (by omega) (by omega)
  cases e3
  rw [show ((0 : Int)).toNat = 0 from rfl, Addr.add_zero', show rd ks 0 = ((k0 : Nat) : Int) from h0] at hk0
  have s0 : decide ((0 : Int) < (ks.length : Int)) = true := decide_eq_true (by omega)
  have s0' : (0 : Nat) < ks.length := by omega
  obtain ⟨ad4, e4, hk1⟩ := Kd.at_int hi1 1 (by omega) (by omega)
  cases e4
  rw [show rd ks 1 = ((k1 : Nat) : Int) from h1] at hk1
  replace hk1 : w.cell? ⟨ad3.block, ad3.off + 1, none⟩ = some (.int .i64 ((k1 : Nat) : Int)) := hk1
  have s1 : decide ((1 : Int) < (ks.length : Int)) = true := decide_eq_true (by omega)
  have s1' : (1 : Nat) < ks.length := by omega
  have C0 := mhas.calls g p parts l table n k0 a b w hM hD g0 (by omega) hb
  rw [v0] at C0
  have C1 := mhas.calls g p parts l table n k1 a b w hM hD g1 (by omega) hb
  rw [v1] at C1
  clear hM hD H0 H1 H2 hi1 hi2 hl1 hl2 hop hk h0 h1 v0
  clear v1
  go_enter Try.func92, Try.ntmps92
  go_wp2_with (first | (go_at_call 64; (with_reducible refine C0.mono ?_); rintro e w' ⟨rfl, rfl⟩) | (go_at_call 64; (with_reducible refine C1.mono ?_); rintro e w' ⟨rfl, rfl⟩))
  go_ret
  exact ⟨rfl, by repeat (first | (with_reducible first | exact Below.refl _ _ | apply pw_below_drewN | apply below_drew1 | apply below_alloc))⟩
set_option maxHeartbeats 8000000 in
set_option maxRecDepth 100000 in
theorem look_or2 (g : Nat) (p : List S49) (parts : List (List Int)) (l : List Int) (table : List (List (List Bool))) (n node a b : Nat) (w : World) (hM : MS w g p parts l table) (hD : Dims table n) (hl : l.length = n) (hn : node < p.length) (hq : node < parts.length) (hb : b ≤ n) (hab : a ≤ b) (hn1 : n ≤ 1000000) (hop : (rd_T49 p (node : Int)).f0 = 4) (k0 k1 : Nat) (hk : 1 < (parts.getD node []).length) (h0 : rd (parts.getD node []) 0 = (k0 : Int)) (h1 : rd (parts.getD node []) 1 = (k1 : Int)) (g0 : k0 < table.length) (g1 : k1 < table.length) (v0 : hv table k0 a b = false) (v1 : hv table k1 a b = false) :
    Calls Try.prog 92 #[.pointer (some ⟨g, 0, none⟩), .int .i64 (node : Int), .int .i64 (a : Int), .int .i64 (b : Int)] w fun e w' => e = .returned (.bool (false)) ∧ Below w.heap.size w w' := by
  have hM' := hM
  obtain ⟨A0, c0, A1, c1, A2, c2, A3, c3, HG, H0, H1, H2, H3⟩ := hM'
  have hcz0 : w.cell? ⟨g, 0, none⟩ = some (.slice A0 p.length c0) := (blk_cell HG 0).trans rfl
  have hcz1 : w.cell? ⟨g, 1, none⟩ = some (.slice A1 parts.length c1) := (blk_cell HG 1).trans rfl
  have hcz2 : w.cell? ⟨g, 2, none⟩ = some (.slice A2 l.length c2) := (blk_cell HG 2).trans rfl
  clear HG H3
  obtain ⟨ad1, A4, c4, e1, hx1, hl1, hi1⟩ := at_sl H1 node hq
  generalize parts.getD node [] = ks at *
  obtain ⟨ad2, A5, c5, e2, hy1, hy2, hl2, hi2⟩ := at_T49 H0 (node : Int) (by omega) (by omega)
  cases e1
  cases e2
  rw [Int.toNat_natCast] at hy1 hy2
  rw [show (rd_T49 p (node : Int)).f0 = 4 from hop] at hy1
  have r1 : decide (node < p.length) = true := decide_eq_true hn
  have r2 : decide (node < parts.length) = true := decide_eq_true hq
  obtain ⟨ad3, e3, hk0⟩ := Kd.at_int hi1 0 (by omega) (by omega)
  cases e3
  rw [show ((0 : Int)).toNat = 0 from rfl, Addr.add_zero', show rd ks 0 = ((k0 : Nat) : Int) from h0] at hk0
  have s0 : decide ((0 : Int) < (ks.length : Int)) = true := decide_eq_true (by omega)
  have s0' : (0 : Nat) < ks.length := by omega
  obtain ⟨ad4, e4, hk1⟩ := Kd.at_int hi1 1 (by omega) (by omega)
  cases e4
  rw [show rd ks 1 = ((k1 : Nat) : Int) from h1] at hk1
  replace hk1 : w.cell? ⟨ad3.block, ad3.off + 1, none⟩ = some (.int .i64 ((k1 : Nat) : Int)) := hk1
  have s1 : decide ((1 : Int) < (ks.length : Int)) = true := decide_eq_true (by omega)
  have s1' : (1 : Nat) < ks.length := by omega
  have C0 := mhas.calls g p parts l table n k0 a b w hM hD g0 (by omega) hb
  rw [v0] at C0
  have C1 := mhas.calls g p parts l table n k1 a b w hM hD g1 (by omega) hb
  rw [v1] at C1
  clear hM hD H0 H1 H2 hi1 hi2 hl1 hl2 hop hk h0 h1 v0
  clear v1
  go_enter Try.func92, Try.ntmps92
  go_wp2_with (first | (go_at_call 64; (with_reducible refine C0.mono ?_); rintro e w' ⟨rfl, rfl⟩) | (go_at_call 64; (with_reducible refine C1.mono ?_); rintro e w' ⟨rfl, rfl⟩))
  go_ret
  exact ⟨rfl, by repeat (first | (with_reducible first | exact Below.refl _ _ | apply pw_below_drewN | apply below_drew1 | apply below_alloc))⟩
set_option maxHeartbeats 8000000 in
set_option maxRecDepth 100000 in
theorem look_and0 (g : Nat) (p : List S49) (parts : List (List Int)) (l : List Int) (table : List (List (List Bool))) (n node a b : Nat) (w : World) (hM : MS w g p parts l table) (hD : Dims table n) (hl : l.length = n) (hn : node < p.length) (hq : node < parts.length) (hb : b ≤ n) (hab : a ≤ b) (hn1 : n ≤ 1000000) (hop : (rd_T49 p (node : Int)).f0 = 5) (k0 k1 : Nat) (hk : 1 < (parts.getD node []).length) (h0 : rd (parts.getD node []) 0 = (k0 : Int)) (h1 : rd (parts.getD node []) 1 = (k1 : Int)) (g0 : k0 < table.length) (g1 : k1 < table.length) (v0 : hv table k0 a b = false) :
    Calls Try.prog 92 #[.pointer (some ⟨g, 0, none⟩), .int .i64 (node : Int), .int .i64 (a : Int), .int .i64 (b : Int)] w fun e w' => e = .returned (.bool (false)) ∧ Below w.heap.size w w' := by
  have hM' := hM
  obtain ⟨A0, c0, A1, c1, A2, c2, A3, c3, HG, H0, H1, H2, H3⟩ := hM'
  have hcz0 : w.cell? ⟨g, 0, none⟩ = some (.slice A0 p.length c0) := (blk_cell HG 0).trans rfl
  have hcz1 : w.cell? ⟨g, 1, none⟩ = some (.slice A1 parts.length c1) := (blk_cell HG 1).trans rfl
  have hcz2 : w.cell? ⟨g, 2, none⟩ = some (.slice A2 l.length c2) := (blk_cell HG 2).trans rfl
  clear HG H3
  obtain ⟨ad1, A4, c4, e1, hx1, hl1, hi1⟩ := at_sl H1 node hq
  generalize parts.getD node [] = ks at *
  obtain ⟨ad2, A5, c5, e2, hy1, hy2, hl2, hi2⟩ := at_T49 H0 (node : Int) (by omega) (by omega)
  cases e1
  cases e2
  rw [Int.toNat_natCast] at hy1 hy2
  rw [show (rd_T49 p (node : Int)).f0 = 5 from hop] at hy1
  have r1 : decide (node < p.length) = true := decide_eq_true hn
  have r2 : decide (node < parts.length) = true := decide_eq_true hq
  obtain ⟨ad3, e3, hk0⟩ := Kd.at_int hi1 0 (by omega) (by omega)
  cases e3
  rw [show ((0 : Int)).toNat = 0 from rfl, Addr.add_zero', show rd ks 0 = ((k0 : Nat) : Int) from h0] at hk0
  have s0 : decide ((0 : Int) < (ks.length : Int)) = true := decide_eq_true (by omega)
  have s0' : (0 : Nat) < ks.length := by omega
  obtain ⟨ad4, e4, hk1⟩ := Kd.at_int hi1 1 (by omega) (by omega)
  cases e4
  rw [show rd ks 1 = ((k1 : Nat) : Int) from h1] at hk1
  replace hk1 : w.cell? ⟨ad3.block, ad3.off + 1, none⟩ = some (.int .i64 ((k1 : Nat) : Int)) := hk1
  have s1 : decide ((1 : Int) < (ks.length : Int)) = true := decide_eq_true (by omega)
  have s1' : (1 : Nat) < ks.length := by omega
  have C0 := mhas.calls g p parts l table n k0 a b w hM hD g0 (by omega) hb
  rw [v0] at C0
  clear hM hD H0 H1 H2 hi1 hi2 hl1 hl2 hop hk h0 h1 v0
  go_enter Try.func92, Try.ntmps92
  go_wp2_with (first | (go_at_call 64; (with_reducible refine C0.mono ?_); rintro e w' ⟨rfl, rfl⟩))
  go_ret
  exact ⟨rfl, by repeat (first | (with_reducible first | exact Below.refl _ _ | apply pw_below_drewN | apply below_drew1 | apply below_alloc))⟩
set_option maxHeartbeats 8000000 in
set_option maxRecDepth 100000 in
theorem look_and1 (g : Nat) (p : List S49) (parts : List (List Int)) (l : List Int) (table : List (List (List Bool))) (n node a b : Nat) (w : World) (hM : MS w g p parts l table) (hD : Dims table n) (hl : l.length = n) (hn : node < p.length) (hq : node < parts.length) (hb : b ≤ n) (hab : a ≤ b) (hn1 : n ≤ 1000000) (hop : (rd_T49 p (node : Int)).f0 = 5) (k0 k1 : Nat) (hk : 1 < (parts.getD node []).length) (h0 : rd (parts.getD node []) 0 = (k0 : Int)) (h1 : rd (parts.getD node []) 1 = (k1 : Int)) (g0 : k0 < table.length) (g1 : k1 < table.length) (v0 : hv table k0 a b = true) (v1 : hv table k1 a b = true) :
    Calls Try.prog 92 #[.pointer (some ⟨g, 0, none⟩), .int .i64 (node : Int), .int .i64 (a : Int), .int .i64 (b : Int)] w fun e w' => e = .returned (.bool (true)) ∧ Below w.heap.size w w' := by
  have hM' := hM
  obtain ⟨A0, c0, A1, c1, A2, c2, A3, c3, HG, H0, H1, H2, H3⟩ := hM'
  have hcz0 : w.cell? ⟨g, 0, none⟩ = some (.slice A0 p.length c0) := (blk_cell HG 0).trans rfl
  have hcz1 : w.cell? ⟨g, 1, none⟩ = some (.slice A1 parts.length c1) := (blk_cell HG 1).trans rfl
  have hcz2 : w.cell? ⟨g, 2, none⟩ = some (.slice A2 l.length c2) := (blk_cell HG 2).trans rfl
  clear HG H3
  obtain ⟨ad1, A4, c4, e1, hx1, hl1, hi1⟩ := at_sl H1 node hq
  generalize parts.getD node [] = ks at *
  obtain ⟨ad2, A5, c5, e2, hy1, hy2, hl2, hi2⟩ := at_T49 H0 (node : Int) (by omega) (by omega)
  cases e1
  cases e2
  rw [Int.toNat_natCast] at hy1 hy2
  rw [show (rd_T49 p (node : Int)).f0 = 5 from hop] at hy1
  have r1 : decide (node < p.length) = true := decide_eq_true hn
  have r2 : decide (node < parts.length) = true := decide_eq_true hq
  obtain ⟨ad3, e3, hk0⟩ := Kd.at_int hi1 0 (by omega) (by omega)
  cases e3
  rw [show ((0 : Int)).toNat = 0 from rfl, Addr.add_zero', show rd ks 0 = ((k0 : Nat) : Int) from h0] at hk0
  have s0 : decide ((0 : Int) < (ks.length : Int)) = true := decide_eq_true (by omega)
  have s0' : (0 : Nat) < ks.length := by omega
  obtain ⟨ad4, e4, hk1⟩ := Kd.at_int hi1 1 (by omega) (by omega)
  cases e4
  rw [show rd ks 1 = ((k1 : Nat) : Int) from h1] at hk1
  replace hk1 : w.cell? ⟨ad3.block, ad3.off + 1, none⟩ = some (.int .i64 ((k1 : Nat) : Int)) := hk1
  have s1 : decide ((1 : Int) < (ks.length : Int)) = true := decide_eq_true (by omega)
  have s1' : (1 : Nat) < ks.length := by omega
  have C0 := mhas.calls g p parts l table n k0 a b w hM hD g0 (by omega) hb
  rw [v0] at C0
  have C1 := mhas.calls g p parts l table n k1 a b w hM hD g1 (by omega) hb
  rw [v1] at C1
  clear hM hD H0 H1 H2 hi1 hi2 hl1 hl2 hop hk h0 h1 v0
  clear v1
  go_enter Try.func92, Try.ntmps92
  go_wp2_with (first | (go_at_call 64; (with_reducible refine C0.mono ?_); rintro e w' ⟨rfl, rfl⟩) | (go_at_call 64; (with_reducible refine C1.mono ?_); rintro e w' ⟨rfl, rfl⟩))
  go_ret
  exact ⟨rfl, by repeat (first | (with_reducible first | exact Below.refl _ _ | apply pw_below_drewN | apply below_drew1 | apply below_alloc))⟩
set_option maxHeartbeats 8000000 in
set_option maxRecDepth 100000 in
theorem look_and2 (g : Nat) (p : List S49) (parts : List (List Int)) (l : List Int) (table : List (List (List Bool))) (n node a b : Nat) (w : World) (hM : MS w g p parts l table) (hD : Dims table n) (hl : l.length = n) (hn : node < p.length) (hq : node < parts.length) (hb : b ≤ n) (hab : a ≤ b) (hn1 : n ≤ 1000000) (hop : (rd_T49 p (node : Int)).f0 = 5) (k0 k1 : Nat) (hk : 1 < (parts.getD node []).length) (h0 : rd (parts.getD node []) 0 = (k0 : Int)) (h1 : rd (parts.getD node []) 1 = (k1 : Int)) (g0 : k0 < table.length) (g1 : k1 < table.length) (v0 : hv table k0 a b = true) (v1 : hv table k1 a b = false) :
    Calls Try.prog 92 #[.pointer (some ⟨g, 0, none⟩), .int .i64 (node : Int), .int .i64 (a : Int), .int .i64 (b : Int)] w fun e w' => e = .returned (.bool (false)) ∧ Below w.heap.size w w' := by
  have hM' := hM
  obtain ⟨A0, c0, A1, c1, A2, c2, A3, c3, HG, H0, H1, H2, H3⟩ := hM'
  have hcz0 : w.cell? ⟨g, 0, none⟩ = some (.slice A0 p.length c0) := (blk_cell HG 0).trans rfl
  have hcz1 : w.cell? ⟨g, 1, none⟩ = some (.slice A1 parts.length c1) := (blk_cell HG 1).trans rfl
  have hcz2 : w.cell? ⟨g, 2, none⟩ = some (.slice A2 l.length c2) := (blk_cell HG 2).trans rfl
  clear HG H3
  obtain ⟨ad1, A4, c4, e1, hx1, hl1, hi1⟩ := at_sl H1 node hq
  generalize parts.getD node [] = ks at *
  obtain ⟨ad2, A5, c5, e2, hy1, hy2, hl2, hi2⟩ := at_T49 H0 (node : Int) (by omega) (by omega)
  cases e1
  cases e2
  rw [Int.toNat_natCast] at hy1 hy2
  rw [show (rd_T49 p (node : Int)).f0 = 5 from hop] at hy1
  have r1 : decide (node < p.length) = true := decide_eq_true hn
  have r2 : decide (node < parts.length) = true := decide_eq_true hq
  obtain ⟨ad3, e3, hk0⟩ := Kd.at_int hi1 0 (by omega) (by omega)
  cases e3
  rw [show ((0 : Int)).toNat = 0 from rfl, Addr.add_zero', show rd ks 0 = ((k0 : Nat) : Int) from h0] at hk0
  have s0 : decide ((0 : Int) < (ks.length : Int)) = true := decide_eq_true (by omega)
  have s0' : (0 : Nat) < ks.length := by omega
  obtain ⟨ad4, e4, hk1⟩ := Kd.at_int hi1 1 (by omega) (by omega)
  cases e4
  rw [show rd ks 1 = ((k1 : Nat) : Int) from h1] at hk1
  replace hk1 : w.cell? ⟨ad3.block, ad3.off + 1, none⟩ = some (.int .i64 ((k1 : Nat) : Int)) := hk1
  have s1 : decide ((1 : Int) < (ks.length : Int)) = true := decide_eq_true (by omega)
  have s1' : (1 : Nat) < ks.length := by omega
  have C0 := mhas.calls g p parts l table n k0 a b w hM hD g0 (by omega) hb
  rw [v0] at C0
  have C1 := mhas.calls g p parts l table n k1 a b w hM hD g1 (by omega) hb
  rw [v1] at C1
  clear hM hD H0 H1 H2 hi1 hi2 hl1 hl2 hop hk h0 h1 v0
  clear v1
  go_enter Try.func92, Try.ntmps92
  go_wp2_with (first | (go_at_call 64; (with_reducible refine C0.mono ?_); rintro e w' ⟨rfl, rfl⟩) | (go_at_call 64; (with_reducible refine C1.mono ?_); rintro e w' ⟨rfl, rfl⟩))
  go_ret
  exact ⟨rfl, by repeat (first | (with_reducible first | exact Below.refl _ _ | apply pw_below_drewN | apply below_drew1 | apply below_alloc))⟩
set_option maxHeartbeats 8000000 in
set_option maxRecDepth 100000 in
theorem look_not (g : Nat) (p : List S49) (parts : List (List Int)) (l : List Int) (table : List (List (List Bool))) (n node a b : Nat) (w : World) (hM : MS w g p parts l table) (hD : Dims table n) (hl : l.length = n) (hn : node < p.length) (hq : node < parts.length) (hb : b ≤ n) (hab : a ≤ b) (hn1 : n ≤ 1000000) (hop : (rd_T49 p (node : Int)).f0 = 7) (k0 : Nat) (hk : 0 < (parts.getD node []).length) (h0 : rd (parts.getD node []) 0 = (k0 : Int)) (g0 : k0 < table.length) :
    Calls Try.prog 92 #[.pointer (some ⟨g, 0, none⟩), .int .i64 (node : Int), .int .i64 (a : Int), .int .i64 (b : Int)] w fun e w' => e = .returned (.bool (!hv table k0 a b)) ∧ Below w.heap.size w w' := by
  have hM' := hM
  obtain ⟨A0, c0, A1, c1, A2, c2, A3, c3, HG, H0, H1, H2, H3⟩ := hM'
  have hcz0 : w.cell? ⟨g, 0, none⟩ = some (.slice A0 p.length c0) := (blk_cell HG 0).trans rfl
  have hcz1 : w.cell? ⟨g, 1, none⟩ = some (.slice A1 parts.length c1) := (blk_cell HG 1).trans rfl
  have hcz2 : w.cell? ⟨g, 2, none⟩ = some (.slice A2 l.length c2) := (blk_cell HG 2).trans rfl
  clear HG H3
  obtain ⟨ad1, A4, c4, e1, hx1, hl1, hi1⟩ := at_sl H1 node hq
  generalize parts.getD node [] = ks at *
  obtain ⟨ad2, A5, c5, e2, hy1, hy2, hl2, hi2⟩ := at_T49 H0 (node : Int) (by omega) (by omega)
  cases e1
  cases e2
  rw [Int.toNat_natCast] at hy1 hy2
  rw [show (rd_T49 p (node : Int)).f0 = 7 from hop] at hy1
  have r1 : decide (node < p.length) = true := decide_eq_true hn
  have r2 : decide (node < parts.length) = true := decide_eq_true hq
  obtain ⟨ad3, e3, hk0⟩ := Kd.at_int hi1 0 (by omega) (by omega)
  cases e3
  rw [show ((0 : Int)).toNat = 0 from rfl, Addr.add_zero', show rd ks 0 = ((k0 : Nat) : Int) from h0] at hk0
  have s0 : decide ((0 : Int) < (ks.length : Int)) = true := decide_eq_true (by omega)
  have s0' : (0 : Nat) < ks.length := by omega
  have C0 := mhas.calls g p parts l table n k0 a b w hM hD g0 (by omega) hb
  generalize hv table k0 a b = v at C0
  clear hM hD H0 H1 H2 hi1 hi2 hl1 hl2 hop hk h0
  go_enter Try.func92, Try.ntmps92
  go_wp2_with (go_at_call 64; (with_reducible refine C0.mono ?_); rintro e w' ⟨rfl, rfl⟩)
  go_ret
  exact ⟨rfl, by repeat (first | (with_reducible first | exact Below.refl _ _ | apply pw_below_drewN | apply below_drew1 | apply below_alloc))⟩
set_option maxHeartbeats 8000000 in
set_option maxRecDepth 100000 in
theorem look_set_yes (g : Nat) (p : List S49) (parts : List (List Int)) (l : List Int) (table : List (List (List Bool))) (n node a b : Nat) (w : World) (hM : MS w g p parts l table) (hD : Dims table n) (hl : l.length = n) (hn : node < p.length) (hq : node < parts.length) (hb : b ≤ n) (hab : a ≤ b) (hn1 : n ≤ 1000000) (hop : (rd_T49 p (node : Int)).f0 = 2) (hw : b = a + 1) (k : Nat) (r : Bool) (hS : impl_inSet.f k (rd_T49 p (node : Int)).f1 (rd l (a : Int)) = some r) :
    Calls Try.prog 92 #[.pointer (some ⟨g, 0, none⟩), .int .i64 (node : Int), .int .i64 (a : Int), .int .i64 (b : Int)] w fun e w' => e = .returned (.bool (r)) ∧ Below w.heap.size w w' := by
  have hM' := hM
  obtain ⟨A0, c0, A1, c1, A2, c2, A3, c3, HG, H0, H1, H2, H3⟩ := hM'
  have hcz0 : w.cell? ⟨g, 0, none⟩ = some (.slice A0 p.length c0) := (blk_cell HG 0).trans rfl
  have hcz1 : w.cell? ⟨g, 1, none⟩ = some (.slice A1 parts.length c1) := (blk_cell HG 1).trans rfl
  have hcz2 : w.cell? ⟨g, 2, none⟩ = some (.slice A2 l.length c2) := (blk_cell HG 2).trans rfl
  clear HG H3
  obtain ⟨ad1, A4, c4, e1, hx1, hl1, hi1⟩ := at_sl H1 node hq
  generalize parts.getD node [] = ks at *
  obtain ⟨ad2, A5, c5, e2, hy1, hy2, hl2, hi2⟩ := at_T49 H0 (node : Int) (by omega) (by omega)
  cases e1
  cases e2
  rw [Int.toNat_natCast] at hy1 hy2
  rw [show (rd_T49 p (node : Int)).f0 = 2 from hop] at hy1
  have r1 : decide (node < p.length) = true := decide_eq_true hn
  have r2 : decide (node < parts.length) = true := decide_eq_true hq
  subst hl
  obtain ⟨ad5, e5, hz⟩ := Kd.at_int H2 (a : Int) (by omega) (by omega)
  cases e5
  rw [Int.toNat_natCast] at hz
  have C0 := Aside0.mk (fun (W : World) (hb : Below w.heap.size w W) => (impl_inSet.calls k A5 c5 (rd_T49 p (node : Int)).f1 (rd l (a : Int)) r W (Kd.C_below hi2 hb) hl2 hS).mono (fun (e : Ending) (w' : World) ⟨he, h⟩ => (⟨he, hb.trans (h.mono hb.size)⟩ : e = Ending.returned (.bool r) ∧ Below w.heap.size w w')))
  have t1 : IntKind.i64.wrap ((a : Int) + 1) = (a : Int) + 1 := by rw [IntKind.wrap_i64]; omega
  have t2 : ((b : Int) == (a : Int) + 1) = true := beq_iff_eq.mpr (by omega)
  have t3 : decide (a < l.length) = true := decide_eq_true (by omega)
  have t4 : a < l.length := by omega
  have t6 : (0 : Int) ≤ (a : Int) := by omega
  have t7 : (a : Int) < (l.length : Int) := by omega
  have t8 : (a : Int) ≤ (l.length : Int) := by omega
  have HX := Aside0.mk (fun (W : World) (hb : Below w.heap.size w W) => (⟨pw_cell_below hb hcz0, pw_cell_below hb hcz2, pw_cell_below hb hy2, pw_cell_below hb hz⟩ : W.cell? ⟨g, 0, none⟩ = some (.slice (some ad2) p.length c0) ∧ W.cell? ⟨g, 2, none⟩ = some (.slice (some ad5) l.length c2) ∧ W.cell? ⟨(ad2.add (node * 2)).block, (ad2.add (node * 2)).off + 1, none⟩ = some (.slice A5 (rd_T49 p (node : Int)).f1.length c5) ∧ W.cell? (ad5.add a) = some (.int .i64 (rd l (a : Int)))))
  generalize (rd_T49 p (node : Int)).f1 = st at *
  generalize rd l (a : Int) = x at *
  clear hS hw
  clear hM hD H0 H1 H2 hi1 hi2 hl1 hl2 hop
  go_enter Try.func92, Try.ntmps92
  go_wp2
  go_region_held3 (fun w' => w'.cell? ⟨g, 0, none⟩ = some (.slice (some ad2) p.length c0) ∧ w'.cell? ⟨g, 2, none⟩ = some (.slice (some ad5) l.length c2) ∧ w'.cell? ⟨(ad2.add (node * 2)).block, (ad2.add (node * 2)).off + 1, none⟩ = some (.slice A5 st.length c5) ∧ w'.cell? (ad5.add a) = some (.int .i64 x)) (first | (go_keep; done) | exact HX.out _ (by repeat (first | (with_reducible first | exact Aside0.out (by assumption) | exact Below.refl _ _ | apply pw_below_drewN | apply below_drew1 | apply below_alloc)))) ((go_at_call 103; (with_reducible refine (C0.out _ (by repeat (first | (with_reducible first | exact Below.refl _ _ | apply pw_below_drewN | apply below_drew1 | apply below_alloc)))).mono ?_); rintro e w' ⟨rfl, hb⟩; have HB := Aside0.mk hb; clear hb))
  go_wp2
  go_ret
  exact ⟨rfl, by repeat (first | (with_reducible first | exact Aside0.out (by assumption) | exact Below.refl _ _ | apply pw_below_drewN | apply below_drew1 | apply below_alloc))⟩
set_option maxHeartbeats 8000000 in
set_option maxRecDepth 100000 in
theorem look_star_eq (g : Nat) (p : List S49) (parts : List (List Int)) (l : List Int) (table : List (List (List Bool))) (n node a b : Nat) (w : World) (hM : MS w g p parts l table) (hD : Dims table n) (hl : l.length = n) (hn : node < p.length) (hq : node < parts.length) (hb : b ≤ n) (hab : a ≤ b) (hn1 : n ≤ 1000000) (hop : (rd_T49 p (node : Int)).f0 = 6) (hw : a = b) :
    Calls Try.prog 92 #[.pointer (some ⟨g, 0, none⟩), .int .i64 (node : Int), .int .i64 (a : Int), .int .i64 (b : Int)] w fun e w' => e = .returned (.bool (true)) ∧ Below w.heap.size w w' := by
  have hM' := hM
  obtain ⟨A0, c0, A1, c1, A2, c2, A3, c3, HG, H0, H1, H2, H3⟩ := hM'
  have hcz0 : w.cell? ⟨g, 0, none⟩ = some (.slice A0 p.length c0) := (blk_cell HG 0).trans rfl
  have hcz1 : w.cell? ⟨g, 1, none⟩ = some (.slice A1 parts.length c1) := (blk_cell HG 1).trans rfl
  have hcz2 : w.cell? ⟨g, 2, none⟩ = some (.slice A2 l.length c2) := (blk_cell HG 2).trans rfl
  clear HG H3
  obtain ⟨ad1, A4, c4, e1, hx1, hl1, hi1⟩ := at_sl H1 node hq
  generalize parts.getD node [] = ks at *
  obtain ⟨ad2, A5, c5, e2, hy1, hy2, hl2, hi2⟩ := at_T49 H0 (node : Int) (by omega) (by omega)
  cases e1
  cases e2
  rw [Int.toNat_natCast] at hy1 hy2
  rw [show (rd_T49 p (node : Int)).f0 = 6 from hop] at hy1
  have r1 : decide (node < p.length) = true := decide_eq_true hn
  have r2 : decide (node < parts.length) = true := decide_eq_true hq
  have t2 : ((a : Int) == (b : Int)) = true := beq_iff_eq.mpr (by omega)
  clear hw
  clear hM hD H0 H1 H2 hi1 hi2 hl1 hl2 hop
  go_enter Try.func92, Try.ntmps92
  go_wp2
  go_ret
  exact ⟨rfl, by repeat (first | (with_reducible first | exact Below.refl _ _ | apply pw_below_drewN | apply below_drew1 | apply below_alloc))⟩
set_option maxHeartbeats 8000000 in
set_option maxRecDepth 100000 in
theorem look_star (g : Nat) (p : List S49) (parts : List (List Int)) (l : List Int) (table : List (List (List Bool))) (n node a b : Nat) (w : World) (hM : MS w g p parts l table) (hD : Dims table n) (hl : l.length = n) (hn : node < p.length) (hq : node < parts.length) (hb : b ≤ n) (hab : a ≤ b) (hn1 : n ≤ 1000000) (hop : (rd_T49 p (node : Int)).f0 = 6) (hw : ¬ a = b) (k0 : Nat) (hk : 0 < (parts.getD node []).length) (h0 : rd (parts.getD node []) 0 = (k0 : Int)) (g0 : k0 < table.length) (gn : node < table.length) :
    Calls Try.prog 92 #[.pointer (some ⟨g, 0, none⟩), .int .i64 (node : Int), .int .i64 (a : Int), .int .i64 (b : Int)] w fun e w' => e = .returned (.bool (anyFT (a + 1) b (fun m => hv table k0 a m && hv table node m b))) ∧ Below w.heap.size w w' := by
  have hM' := hM
  obtain ⟨A0, c0, A1, c1, A2, c2, A3, c3, HG, H0, H1, H2, H3⟩ := hM'
  have hcz0 : w.cell? ⟨g, 0, none⟩ = some (.slice A0 p.length c0) := (blk_cell HG 0).trans rfl
  have hcz1 : w.cell? ⟨g, 1, none⟩ = some (.slice A1 parts.length c1) := (blk_cell HG 1).trans rfl
  have hcz2 : w.cell? ⟨g, 2, none⟩ = some (.slice A2 l.length c2) := (blk_cell HG 2).trans rfl
  clear HG H3
  obtain ⟨ad1, A4, c4, e1, hx1, hl1, hi1⟩ := at_sl H1 node hq
  generalize parts.getD node [] = ks at *
  obtain ⟨ad2, A5, c5, e2, hy1, hy2, hl2, hi2⟩ := at_T49 H0 (node : Int) (by omega) (by omega)
  cases e1
  cases e2
  rw [Int.toNat_natCast] at hy1 hy2
  rw [show (rd_T49 p (node : Int)).f0 = 6 from hop] at hy1
  have r1 : decide (node < p.length) = true := decide_eq_true hn
  have r2 : decide (node < parts.length) = true := decide_eq_true hq
  obtain ⟨ad3, e3, hk0⟩ := Kd.at_int hi1 0 (by omega) (by omega)
  cases e3
  rw [show ((0 : Int)).toNat = 0 from rfl, Addr.add_zero', show rd ks 0 = ((k0 : Nat) : Int) from h0] at hk0
  have s0 : decide ((0 : Int) < (ks.length : Int)) = true := decide_eq_true (by omega)
  have s0' : (0 : Nat) < ks.length := by omega
  have t2 : ((a : Int) == (b : Int)) = false := beq_eq_false_iff_ne.mpr (by omega)
  clear hk h0 hw
  have C0 := Aside0.mk (fun (m : Nat) (hm : m ≤ n) => mhas.calls g p parts l table n k0 a m w hM hD g0 (by omega) hm)
  have C1 := Aside0.mk (fun (m : Nat) (hm : m ≤ n) => mhas.calls g p parts l table n node m b w hM hD gn hm hb)
  have HV := Aside0.mk (fun (r : Bool) (h : anyFT (a + 1) b (fun m => hv table k0 a m && hv table node m b) = r) => h)
  obtain ⟨V, hV⟩ : ∃ V, anyFT (a + 1) b (fun m => hv table k0 a m && hv table node m b) = V := ⟨_, rfl⟩
  rw [hV]
  have HV := Aside0.mk hV
  clear hV
  clear hM hD H0 H1 H2 hi1 hi2 hl1 hl2 hop
  go_enter Try.func92, Try.ntmps92
  go_wp2
  go_loop [10] (fun v => ∃ m : Nat, (a + 1) ≤ m ∧ m ≤ b + 1 ∧ v = .int .i64 m ∧ Aside0 (∀ i, (a + 1) ≤ i → i < m → (fun m => hv table k0 a m && hv table node m b) i = false)) (fun v => b + 1 - (intOf v).toNat)
  case atStart => exact ⟨(a + 1), Nat.le_refl _, by omega, by first | rfl | go_num | (simp; done), ⟨fun i h1 h2 => by omega⟩⟩
  case round =>
    obtain ⟨m, hm1, hm2, rfl, HF⟩ := hrel
    by_cases hc : m ≤ b
    · have q1 : decide (m ≤ b) = true := decide_eq_true hc
      have D0 := Aside0.mk (C0.out m (by omega))
      have D1 := Aside0.mk (C1.out m (by omega))
      cases hv0 : hv table k0 a m with
      | false =>
        rw [hv0] at D0
        have HV0 := Aside0.mk hv0
        clear hv0
        go_wp2_with (first | (go_at_call 64; (with_reducible refine D0.out.mono ?_); rintro e w' ⟨rfl, rfl⟩))
        go_round
        case rel => exact ⟨m + 1, by omega, by omega, by go_num, ⟨fun i h1 h2 => by
          by_cases e : i = m
          · subst e; simp only [HV0.out, Bool.false_and]
          · exact HF.out i h1 (by omega)⟩⟩
        case measure => simp [intOf]; omega
      | true =>
        rw [hv0] at D0
        have HV0 := Aside0.mk hv0
        clear hv0
        cases hv1 : hv table node m b with
        | false =>
          rw [hv1] at D1
          have HV1 := Aside0.mk hv1
          clear hv1
          go_wp2_with (first | (go_at_call 64; (with_reducible refine D0.out.mono ?_); rintro e w' ⟨rfl, rfl⟩) | (go_at_call 64; (with_reducible refine D1.out.mono ?_); rintro e w' ⟨rfl, rfl⟩))
          go_round
          case rel => exact ⟨m + 1, by omega, by omega, by go_num, ⟨fun i h1 h2 => by
            by_cases e : i = m
            · subst e; simp only [HV1.out, Bool.and_false]
            · exact HF.out i h1 (by omega)⟩⟩
          case measure => simp [intOf]; omega
        | true =>
          rw [hv1] at D1
          have HV1 := Aside0.mk hv1
          clear hv1
          have hVt : true = V := by rw [← HV.out]; exact (anyFT_true m hm1 hc (by simp only [HV0.out, HV1.out, Bool.and_self])).symm
          subst hVt
          go_wp2_with (first | (go_at_call 64; (with_reducible refine D0.out.mono ?_); rintro e w' ⟨rfl, rfl⟩) | (go_at_call 64; (with_reducible refine D1.out.mono ?_); rintro e w' ⟨rfl, rfl⟩))
          go_ret
          exact ⟨rfl, by repeat (first | (with_reducible first | exact Below.refl _ _ | apply pw_below_drewN | apply below_drew1 | apply below_alloc))⟩
    · have q1 : decide (m ≤ b) = false := decide_eq_false hc
      have hVf : false = V := by rw [← HV.out]; exact (anyFT_false fun i h1 h2 => HF.out i h1 (by omega)).symm
      subst hVf
      go_wp2
      go_ret
      exact ⟨rfl, by repeat (first | (with_reducible first | exact Below.refl _ _ | apply pw_below_drewN | apply below_drew1 | apply below_alloc))⟩
set_option maxHeartbeats 8000000 in
set_option maxRecDepth 100000 in
theorem look_cat (g : Nat) (p : List S49) (parts : List (List Int)) (l : List Int) (table : List (List (List Bool))) (n node a b : Nat) (w : World) (hM : MS w g p parts l table) (hD : Dims table n) (hl : l.length = n) (hn : node < p.length) (hq : node < parts.length) (hb : b ≤ n) (hab : a ≤ b) (hn1 : n ≤ 1000000) (hop : (rd_T49 p (node : Int)).f0 = 3) (k0 k1 : Nat) (hk : 1 < (parts.getD node []).length) (h0 : rd (parts.getD node []) 0 = (k0 : Int)) (h1 : rd (parts.getD node []) 1 = (k1 : Int)) (g0 : k0 < table.length) (g1 : k1 < table.length) :
    Calls Try.prog 92 #[.pointer (some ⟨g, 0, none⟩), .int .i64 (node : Int), .int .i64 (a : Int), .int .i64 (b : Int)] w fun e w' => e = .returned (.bool (anyFT a b (fun m => hv table k0 a m && hv table k1 m b))) ∧ Below w.heap.size w w' := by
  have hM' := hM
  obtain ⟨A0, c0, A1, c1, A2, c2, A3, c3, HG, H0, H1, H2, H3⟩ := hM'
  have hcz0 : w.cell? ⟨g, 0, none⟩ = some (.slice A0 p.length c0) := (blk_cell HG 0).trans rfl
  have hcz1 : w.cell? ⟨g, 1, none⟩ = some (.slice A1 parts.length c1) := (blk_cell HG 1).trans rfl
  have hcz2 : w.cell? ⟨g, 2, none⟩ = some (.slice A2 l.length c2) := (blk_cell HG 2).trans rfl
  clear HG H3
  obtain ⟨ad1, A4, c4, e1, hx1, hl1, hi1⟩ := at_sl H1 node hq
  generalize parts.getD node [] = ks at *
  obtain ⟨ad2, A5, c5, e2, hy1, hy2, hl2, hi2⟩ := at_T49 H0 (node : Int) (by omega) (by omega)
  cases e1
  cases e2
  rw [Int.toNat_natCast] at hy1 hy2
  rw [show (rd_T49 p (node : Int)).f0 = 3 from hop] at hy1
  have r1 : decide (node < p.length) = true := decide_eq_true hn
  have r2 : decide (node < parts.length) = true := decide_eq_true hq
  obtain ⟨ad3, e3, hk0⟩ := Kd.at_int hi1 0 (by omega) (by omega)
  cases e3
  rw [show ((0 : Int)).toNat = 0 from rfl, Addr.add_zero', show rd ks 0 = ((k0 : Nat) : Int) from h0] at hk0
  have s0 : decide ((0 : Int) < (ks.length : Int)) = true := decide_eq_true (by omega)
  have s0' : (0 : Nat) < ks.length := by omega
  obtain ⟨ad4, e4, hk1⟩ := Kd.at_int hi1 1 (by omega) (by omega)
  cases e4
  rw [show rd ks 1 = ((k1 : Nat) : Int) from h1] at hk1
  replace hk1 : w.cell? ⟨ad3.block, ad3.off + 1, none⟩ = some (.int .i64 ((k1 : Nat) : Int)) := hk1
  have s1 : decide ((1 : Int) < (ks.length : Int)) = true := decide_eq_true (by omega)
  have s1' : (1 : Nat) < ks.length := by omega
  clear hk h0 h1
  have C0 := Aside0.mk (fun (m : Nat) (hm : m ≤ n) => mhas.calls g p parts l table n k0 a m w hM hD g0 (by omega) hm)
  have C1 := Aside0.mk (fun (m : Nat) (hm : m ≤ n) => mhas.calls g p parts l table n k1 m b w hM hD g1 hm hb)
  have HV := Aside0.mk (fun (r : Bool) (h : anyFT a b (fun m => hv table k0 a m && hv table k1 m b) = r) => h)
  obtain ⟨V, hV⟩ : ∃ V, anyFT a b (fun m => hv table k0 a m && hv table k1 m b) = V := ⟨_, rfl⟩
  rw [hV]
  have HV := Aside0.mk hV
  clear hV
  clear hM hD H0 H1 H2 hi1 hi2 hl1 hl2 hop
  go_enter Try.func92, Try.ntmps92
  go_wp2
  go_loop [11] (fun v => ∃ m : Nat, a ≤ m ∧ m ≤ b + 1 ∧ v = .int .i64 m ∧ Aside0 (∀ i, a ≤ i → i < m → (fun m => hv table k0 a m && hv table k1 m b) i = false)) (fun v => b + 1 - (intOf v).toNat)
  case atStart => exact ⟨a, Nat.le_refl _, by omega, by first | rfl | go_num | (simp; done), ⟨fun i h1 h2 => by omega⟩⟩
  case round =>
    obtain ⟨m, hm1, hm2, rfl, HF⟩ := hrel
    by_cases hc : m ≤ b
    · have q1 : decide (m ≤ b) = true := decide_eq_true hc
      have D0 := Aside0.mk (C0.out m (by omega))
      have D1 := Aside0.mk (C1.out m (by omega))
      cases hv0 : hv table k0 a m with
      | false =>
        rw [hv0] at D0
        have HV0 := Aside0.mk hv0
        clear hv0
        go_wp2_with (first | (go_at_call 64; (with_reducible refine D0.out.mono ?_); rintro e w' ⟨rfl, rfl⟩))
        go_round
        case rel => exact ⟨m + 1, by omega, by omega, by go_num, ⟨fun i h1 h2 => by
          by_cases e : i = m
          · subst e; simp only [HV0.out, Bool.false_and]
          · exact HF.out i h1 (by omega)⟩⟩
        case measure => simp [intOf]; omega
      | true =>
        rw [hv0] at D0
        have HV0 := Aside0.mk hv0
        clear hv0
        cases hv1 : hv table k1 m b with
        | false =>
          rw [hv1] at D1
          have HV1 := Aside0.mk hv1
          clear hv1
          go_wp2_with (first | (go_at_call 64; (with_reducible refine D0.out.mono ?_); rintro e w' ⟨rfl, rfl⟩) | (go_at_call 64; (with_reducible refine D1.out.mono ?_); rintro e w' ⟨rfl, rfl⟩))
          go_round
          case rel => exact ⟨m + 1, by omega, by omega, by go_num, ⟨fun i h1 h2 => by
            by_cases e : i = m
            · subst e; simp only [HV1.out, Bool.and_false]
            · exact HF.out i h1 (by omega)⟩⟩
          case measure => simp [intOf]; omega
        | true =>
          rw [hv1] at D1
          have HV1 := Aside0.mk hv1
          clear hv1
          have hVt : true = V := by rw [← HV.out]; exact (anyFT_true m hm1 hc (by simp only [HV0.out, HV1.out, Bool.and_self])).symm
          subst hVt
          go_wp2_with (first | (go_at_call 64; (with_reducible refine D0.out.mono ?_); rintro e w' ⟨rfl, rfl⟩) | (go_at_call 64; (with_reducible refine D1.out.mono ?_); rintro e w' ⟨rfl, rfl⟩))
          go_ret
          exact ⟨rfl, by repeat (first | (with_reducible first | exact Below.refl _ _ | apply pw_below_drewN | apply below_drew1 | apply below_alloc))⟩
    · have q1 : decide (m ≤ b) = false := decide_eq_false hc
      have hVf : false = V := by rw [← HV.out]; exact (anyFT_false fun i h1 h2 => HF.out i h1 (by omega)).symm
      subst hVf
      go_wp2
      go_ret
      exact ⟨rfl, by repeat (first | (with_reducible first | exact Below.refl _ _ | apply pw_below_drewN | apply below_drew1 | apply below_alloc))⟩
/-- A kid's place. -/
def kd (parts : List (List Int)) (node i : Nat) : Nat := (rd (parts.getD node []) (i : Int)).toNat
/-- What a node tells of a part of the list, where V tells it of what comes ahead. -/
def lookF (I : List Int → Int → Bool) (p : List S49) (parts : List (List Int)) (l : List Int) (V : Nat → Nat → Nat → Bool) (node a b : Nat) : Bool :=
  if (rd_T49 p (node : Int)).f0 = 1 then decide (a = b)
  else if (rd_T49 p (node : Int)).f0 = 2 then (if b = a + 1 then I (rd_T49 p (node : Int)).f1 (rd l (a : Int)) else false)
  else if (rd_T49 p (node : Int)).f0 = 4 then (V (kd parts node 0) a b || V (kd parts node 1) a b)
  else if (rd_T49 p (node : Int)).f0 = 5 then (V (kd parts node 0) a b && V (kd parts node 1) a b)
  else if (rd_T49 p (node : Int)).f0 = 7 then !V (kd parts node 0) a b
  else if (rd_T49 p (node : Int)).f0 = 6 then (if a = b then true else anyFT (a + 1) b fun m => V (kd parts node 0) a m && V node m b)
  else anyFT a b fun m => V (kd parts node 0) a m && V (kd parts node 1) m b
/-- The kids of a node stand as they must. -/
def KidsOk (p : List S49) (parts : List (List Int)) (node : Nat) : Prop :=
  ((rd_T49 p (node : Int)).f0 = 1 ∨ (rd_T49 p (node : Int)).f0 = 2 ∨ ((rd_T49 p (node : Int)).f0 = 6 ∨ (rd_T49 p (node : Int)).f0 = 7) ∧ (parts.getD node []).length = 1 ∨ ((rd_T49 p (node : Int)).f0 = 3 ∨ (rd_T49 p (node : Int)).f0 = 4 ∨ (rd_T49 p (node : Int)).f0 = 5) ∧ (parts.getD node []).length = 2) ∧ ∀ x ∈ parts.getD node [], 0 ≤ x ∧ x < (node : Int)
theorem kid_at {parts : List (List Int)} {node i : Nat} (h : ∀ x ∈ parts.getD node [], 0 ≤ x ∧ x < (node : Int)) (hi : i < (parts.getD node []).length) : rd (parts.getD node []) (i : Int) = ((kd parts node i : Nat) : Int) ∧ kd parts node i < node := by
  have hm : rd (parts.getD node []) (i : Int) ∈ parts.getD node [] := by
    have e : rd (parts.getD node []) (i : Int) = (parts.getD node [])[i] := by show (parts.getD node []).getD ((i : Int)).toNat 0 = _; rw [Int.toNat_natCast, List.getD_eq_getElem?_getD, List.getElem?_eq_getElem hi]; rfl
    rw [e]; exact List.getElem_mem _
  have := h _ hm
  unfold kd
  omega
theorem anyFT_congr {lo hi : Nat} {f g : Nat → Bool} (h : ∀ m, lo ≤ m → m ≤ hi → f m = g m) : anyFT lo hi f = anyFT lo hi g := by
  unfold anyFT
  rw [Bool.eq_iff_iff, List.any_eq_true, List.any_eq_true]
  constructor
  · rintro ⟨m, hm, hb⟩
    rw [Bool.and_eq_true, decide_eq_true_iff] at hb
    exact ⟨m, hm, by rw [decide_eq_true hb.1, ← h m hb.1 (by have := List.mem_range.1 hm; omega), hb.2]; rfl⟩
  · rintro ⟨m, hm, hb⟩
    rw [Bool.and_eq_true, decide_eq_true_iff] at hb
    exact ⟨m, hm, by rw [decide_eq_true hb.1, h m hb.1 (by have := List.mem_range.1 hm; omega), hb.2]; rfl⟩
theorem look_any (I : List Int → Int → Bool) (V : Nat → Nat → Nat → Bool) (g : Nat) (p : List S49) (parts : List (List Int)) (l : List Int) (table : List (List (List Bool))) (n node a b : Nat) (w : World) (hM : MS w g p parts l table) (hD : Dims table n) (hl : l.length = n) (hn : node < p.length) (hq : node < parts.length) (hb : b ≤ n) (hab : a ≤ b) (hn1 : n ≤ 1000000) (gn : node < table.length) (hK : KidsOk p parts node) (hI : (rd_T49 p (node : Int)).f0 = 2 → ∀ x, ∃ k, impl_inSet.f k (rd_T49 p (node : Int)).f1 x = some (I (rd_T49 p (node : Int)).f1 x))
    (hV0 : ∀ k i j, k < node → i ≤ j → j ≤ n → hv table k i j = V k i j) (hV1 : ∀ i j, a < i → i ≤ j → j ≤ n → hv table node i j = V node i j) :
    Calls Try.prog 92 #[.pointer (some ⟨g, 0, none⟩), .int .i64 (node : Int), .int .i64 (a : Int), .int .i64 (b : Int)] w fun e w' => e = .returned (.bool (lookF I p parts l V node a b)) ∧ Below w.heap.size w w' := by
  obtain ⟨hop, hkk⟩ := hK
  unfold lookF
  rcases hop with h | h | ⟨h, hk⟩ | ⟨h, hk⟩
  · rw [if_pos h]
    exact look_nil g p parts l table n node a b w hM hD hl hn hq hb hab hn1 h
  · rw [if_neg (by omega), if_pos h]
    by_cases e : b = a + 1
    · rw [if_pos e]
      obtain ⟨k, hk⟩ := hI h (rd l (a : Int))
      exact look_set_yes g p parts l table n node a b w hM hD hl hn hq hb hab hn1 h e k _ hk
    · rw [if_neg e]
      exact look_set_no g p parts l table n node a b w hM hD hl hn hq hb hab hn1 h e
  · obtain ⟨k0, k0l⟩ := kid_at (i := 0) hkk (by omega)
    rcases h with h | h
    · rw [if_neg (by omega), if_neg (by omega), if_neg (by omega), if_neg (by omega), if_neg (by omega), if_pos h]
      by_cases e : a = b
      · rw [if_pos e]
        exact look_star_eq g p parts l table n node a b w hM hD hl hn hq hb hab hn1 h e
      · rw [if_neg e, ← anyFT_congr (f := fun m => hv table (kd parts node 0) a m && hv table node m b) (fun m h1 h2 => by rw [hV0 _ a m k0l (by omega) (by omega), hV1 m b (by omega) h2 hb])]
        exact look_star g p parts l table n node a b w hM hD hl hn hq hb hab hn1 h e _ (by omega) k0 (by omega) gn
    · rw [if_neg (by omega), if_neg (by omega), if_neg (by omega), if_neg (by omega), if_pos h, ← hV0 _ a b k0l hab hb]
      exact look_not g p parts l table n node a b w hM hD hl hn hq hb hab hn1 h _ (by omega) k0 (by omega)
  · obtain ⟨k0, k0l⟩ := kid_at (i := 0) hkk (by omega)
    obtain ⟨k1, k1l⟩ := kid_at (i := 1) hkk (by omega)
    rcases h with h | h | h
    · rw [if_neg (by omega), if_neg (by omega), if_neg (by omega), if_neg (by omega), if_neg (by omega), if_neg (by omega), ← anyFT_congr (f := fun m => hv table (kd parts node 0) a m && hv table (kd parts node 1) m b) (fun m h1 h2 => by rw [hV0 _ a m k0l (by omega) (by omega), hV0 _ m b k1l h2 hb])]
      exact look_cat g p parts l table n node a b w hM hD hl hn hq hb hab hn1 h _ _ (by omega) k0 k1 (by omega) (by omega)
    · rw [if_neg (by omega), if_neg (by omega), if_pos h, ← hV0 _ a b k0l hab hb, ← hV0 _ a b k1l hab hb]
      cases v0 : hv table (kd parts node 0) a b with
      | true => exact look_or0 g p parts l table n node a b w hM hD hl hn hq hb hab hn1 h _ _ (by omega) k0 k1 (by omega) (by omega) v0
      | false =>
        cases v1 : hv table (kd parts node 1) a b with
        | true => exact look_or1 g p parts l table n node a b w hM hD hl hn hq hb hab hn1 h _ _ (by omega) k0 k1 (by omega) (by omega) v0 v1
        | false => exact look_or2 g p parts l table n node a b w hM hD hl hn hq hb hab hn1 h _ _ (by omega) k0 k1 (by omega) (by omega) v0 v1
    · rw [if_neg (by omega), if_neg (by omega), if_neg (by omega), if_pos h, ← hV0 _ a b k0l hab hb, ← hV0 _ a b k1l hab hb]
      cases v0 : hv table (kd parts node 0) a b with
      | false => exact look_and0 g p parts l table n node a b w hM hD hl hn hq hb hab hn1 h _ _ (by omega) k0 k1 (by omega) (by omega) v0
      | true =>
        cases v1 : hv table (kd parts node 1) a b with
        | true => exact look_and1 g p parts l table n node a b w hM hD hl hn hq hb hab hn1 h _ _ (by omega) k0 k1 (by omega) (by omega) v0 v1
        | false => exact look_and2 g p parts l table n node a b w hM hD hl hn hq hb hab hn1 h _ _ (by omega) k0 k1 (by omega) (by omega) v0 v1

end Go.Proofs.Ytlmpeaelpchokaa.HFnExactMatchesRe
