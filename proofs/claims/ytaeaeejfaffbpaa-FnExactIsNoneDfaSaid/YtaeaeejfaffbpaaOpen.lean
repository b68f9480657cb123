/-
  Slices that came in, read as data, told as the walks want them.
-/
import Derived.WalkKit
import Derived.ProofKit
import Derived.OpenShut
import Derived.ChangeOld
import Derived.Below
import Derived.Deep.Matrix
import Derived.Deep.Grids
import Derived.Lib.SmallJoins
import Derived.Test.YtaeaeejfaffbpaaWWords
namespace Go.Proofs.Ytaeaeejfaffbpaa.Open
open Go.ChangeShapes Go.WideShapes Go.ChangeAt Go.RowKit Go.Deep
open Go.Proofs.YtaeaeejfaffbpaaW.PrintWords
section
variable {H : Type} {enc : TypeId × Value → H} {P : Program} {w : World} {held : Bool}
theorem ints {t e : TypeId} {k : IntKind} {fuel : Nat} {v : Value} {x : DataW H × List MemPlace} (ht : P.underlying t = some (.slice e)) (he : P.underlying e = some (.int k)) (hc : P.cellsOf e = 1)
    (h : DataW.trod enc P w 0 (fun _ => true) held fuel t [v] = some x) :
    ∃ A l c, v = .slice A l.length c ∧ l.length ≤ c ∧ Kd.C (Kd.int k) w A l.length l ∧ l.length ≤ 9223372036854775807 ∧ ∀ n ∈ l, (Lit.int k n).wf = true := by
  rcases open_ints ht he hc h with ⟨e1, _⟩ | ⟨a, len, cap, zs, e1, _, hl, hm, hz, _, hcell, hw⟩
  · injection e1 with e1
    subst e1
    exact ⟨none, [], 0, rfl, Nat.le_refl _, ⟨rfl, by simp, fun h => absurd h (by simp)⟩, by simp, fun n hn => by cases hn⟩
  · injection e1 with e1
    subst e1
    simp only [if_true] at hz
    have hlen : (zs.take len).length = len := by rw [List.length_take]; omega
    have hmx : cap ≤ 9223372036854775807 := hm
    refine ⟨some a, zs.take len, cap, by rw [hlen], by omega, ⟨rfl, by omega, fun _ => ⟨a, rfl, fun j p hj => ⟨[.int k p], rfl, rfl, fun i u hu => ?_⟩⟩⟩, by omega, fun n hn => hw n (List.mem_of_mem_take hn)⟩
    obtain ⟨hl2, hp⟩ := List.getElem?_eq_some_iff.1 hj
    rw [List.getElem_take] at hp
    have hj2 : j < zs.length := by omega
    cases i with
    | zero =>
      have : Value.int k p = u := by simpa using hu
      subst this
      have := hcell j hj2
      rw [List.getD_eq_getElem?_getD, List.getElem?_eq_getElem hj2, Option.getD_some, hp] at this
      simpa [Kd.int, Kd.scalar] using this
    | succ i => simp at hu
theorem rows {t e q : TypeId} {k : IntKind} {fuel : Nat} {v : Value} {x : DataW H × List MemPlace} (n : Nat) (ht : P.underlying t = some (.slice e)) (he : P.underlying e = some (.slice q)) (hq : P.underlying q = some (.int k)) (ce : P.cellsOf e = 1) (cq : P.cellsOf q = 1)
    (h : DataW.trod enc P w 0 (fun _ => true) held fuel t [v] = some x) :
    ∃ A l c, v = .slice A l.length c ∧ l.length ≤ c ∧ Kd.C (Kd.slice n (Kd.int k)) w A l.length l ∧ l.length ≤ 9223372036854775807 ∧ (∀ r ∈ l, r.length ≤ 9223372036854775807) ∧ ∀ r ∈ l, ∀ n ∈ r, (Lit.int k n).wf = true := by
  rcases open_int_rows ht he hq ce cq h with ⟨e1, _⟩ | ⟨a, len, cap, A, L, C, Z, e1, _, hl, hm, _, hr⟩
  · injection e1 with e1
    subst e1
    exact ⟨none, [], 0, rfl, Nat.le_refl _, ⟨rfl, by simp, fun h => absurd h (by simp)⟩, by simp, fun r hr => (by cases hr), fun r hr => by cases hr⟩
  · injection e1 with e1
    subst e1
    have hmx : cap ≤ 9223372036854775807 := hm
    have hlen : ((List.range len).map fun r => (Z r).take (L r)).length = len := by simp
    have hrow : ∀ r, r < len → ((Z r).take (L r)).length = L r ∧ L r ≤ C r ∧ C r ≤ 9223372036854775807 ∧ (Kd.int k).C w (A r) (L r) ((Z r).take (L r)) ∧ ∀ n ∈ (Z r).take (L r), (Lit.int k n).wf = true := by
      intro r hr'
      obtain ⟨_, h1, h2, h3, h4, h5, h6⟩ := hr r (by omega)
      have h2' : C r ≤ 9223372036854775807 := h2
      have hz : ((Z r).take (L r)).length = L r := by rw [List.length_take]; omega
      refine ⟨hz, h1, h2', ⟨hz, by omega, fun hpos => ?_⟩, fun n hn => h4 n (List.mem_of_mem_take hn)⟩
      cases ha : A r with
      | none => exact absurd (h5 ha) (by omega)
      | some a' =>
        refine ⟨a', rfl, fun j p hj => ⟨[.int k p], rfl, rfl, fun i u hu => ?_⟩⟩
        obtain ⟨hl2, hp⟩ := List.getElem?_eq_some_iff.1 hj
        rw [List.getElem_take] at hp
        have hj2 : j < (Z r).length := by omega
        cases i with
        | zero =>
          have : Value.int k p = u := by simpa using hu
          subst this
          have := (h6 a' ha).2 j (by omega)
          rw [List.getD_eq_getElem?_getD, List.getElem?_eq_getElem hj2, Option.getD_some, hp] at this
          simpa [Kd.int, Kd.scalar] using this
        | succ i => simp at hu
    refine ⟨some a, (List.range len).map fun r => (Z r).take (L r), cap, by rw [hlen], by omega, ⟨rfl, by omega, fun _ => ⟨a, rfl, fun j p hj => ?_⟩⟩, by omega, ?_, ?_⟩
    · obtain ⟨hl2, hp⟩ := List.getElem?_eq_some_iff.1 hj
      have hjl : j < len := by omega
      have hp' : p = (Z j).take (L j) := by rw [← hp]; simp
      subst hp'
      obtain ⟨g1, g2, g3, g4, g5⟩ := hrow j hjl
      refine ⟨[.slice (A j) (L j) (C j)], rfl, ⟨A j, C j, by rw [g1], by omega, by rw [g1]; exact g4⟩, fun i u hu => ?_⟩
      cases i with
      | zero =>
        have : Value.slice (A j) (L j) (C j) = u := by simpa using hu
        subst this
        have := (hr j (by omega)).1
        simpa [Kd.slice] using this
      | succ i => simp at hu
    · intro r hr'
      obtain ⟨j, hj, rfl⟩ := List.mem_map.1 hr'
      obtain ⟨g1, g2, g3, g4, g5⟩ := hrow j (List.mem_range.1 hj)
      show ((Z j).take (L j)).length ≤ _
      omega
    · intro r hr'
      obtain ⟨j, hj, rfl⟩ := List.mem_map.1 hr'
      exact (hrow j (List.mem_range.1 hj)).2.2.2.2
theorem bools {t e : TypeId} {fuel : Nat} {v : Value} {x : DataW H × List MemPlace} (ht : P.underlying t = some (.slice e)) (he : P.underlying e = some .bool) (hc : P.cellsOf e = 1)
    (h : DataW.trod enc P w 0 (fun _ => true) held fuel t [v] = some x) :
    ∃ A l c, v = .slice A l.length c ∧ l.length ≤ c ∧ Kd.C Kd.bool w A l.length l ∧ l.length ≤ 9223372036854775807 := by
  rcases open_bools ht he hc h with ⟨e1, _⟩ | ⟨a, len, cap, B, e1, _, hl, hm, _, hcell⟩
  · injection e1 with e1
    subst e1
    exact ⟨none, [], 0, rfl, Nat.le_refl _, ⟨rfl, by simp, fun h => absurd h (by simp)⟩, by simp⟩
  · injection e1 with e1
    subst e1
    have hmx : cap ≤ 9223372036854775807 := hm
    have hlen : ((List.range len).map B).length = len := by simp
    refine ⟨some a, (List.range len).map B, cap, by rw [hlen], by omega, ⟨rfl, by omega, fun _ => ⟨a, rfl, fun j p hj => ⟨[.bool p], rfl, rfl, fun i u hu => ?_⟩⟩⟩, by omega⟩
    obtain ⟨hl2, hp⟩ := List.getElem?_eq_some_iff.1 hj
    have hjl : j < len := by omega
    have hp' : p = B j := by rw [← hp]; simp
    subst hp'
    cases i with
    | zero =>
      have : Value.bool (B j) = u := by simpa using hu
      subst this
      have := hcell j (by omega)
      simpa [Kd.bool, Kd.scalar] using this
    | succ i => simp at hu
theorem boolv {t : TypeId} {fuel : Nat} {v : Value} {x : DataW H × List MemPlace} (ht : P.underlying t = some .bool) (h : DataW.trod enc P w 0 (fun _ => true) held fuel t [v] = some x) : ∃ b, v = .bool b := by
  obtain ⟨b, h1, _⟩ := DataW.trod_bool ht h
  injection h1 with h1
  exact ⟨b, h1⟩
theorem intv {t : TypeId} {k : IntKind} {fuel : Nat} {v : Value} {x : DataW H × List MemPlace} (ht : P.underlying t = some (.int k)) (h : DataW.trod enc P w 0 (fun _ => true) held fuel t [v] = some x) : ∃ n, v = .int k n ∧ (Lit.int k n).wf = true := by
  obtain ⟨n, h1, _, h2⟩ := DataW.trod_int ht h
  injection h1 with h1
  exact ⟨n, h1, h2⟩
theorem strv {t : TypeId} {fuel : Nat} {v : Value} {x : DataW H × List MemPlace} (ht : P.underlying t = some .string) (h : DataW.trod enc P w 0 (fun _ => true) held fuel t [v] = some x) : ∃ s : ByteArray, v = .string s ∧ s.size ≤ 9223372036854775807 := by
  obtain ⟨n, h1, _, h2⟩ := DataW.trod_string ht h
  injection h1 with h1
  exact ⟨n, h1, by unfold maxLen at h2; omega⟩
theorem agg5 {r : Reach} {b0 : Nat} {t : TypeId} {f0 f1 f2 f3 f4 : Field} {v : Value} {d : DataW H} {p : List MemPlace} (hs : P.underlying t = some (.struct #[f0, f1, f2, f3, f4])) (hone : oneCellFields P #[f0, f1, f2, f3, f4] = true) (hC : P.cellsOf t = 5)
    (hv : Value.okWide P w r b0 t v) (h : DataW.Trod enc P w 0 (fun _ => true) held t v d p) :
    ∃ (v0 v1 v2 v3 v4 : Value) (y0 y1 y2 y3 y4 : DataW H × List MemPlace) (n : Nat), v = .agg #[v0, v1, v2, v3, v4] ∧
      DataW.trod enc P w 0 (fun _ => true) held n f0.type [v0] = some y0 ∧ DataW.trod enc P w 0 (fun _ => true) held n f1.type [v1] = some y1 ∧ DataW.trod enc P w 0 (fun _ => true) held n f2.type [v2] = some y2 ∧ DataW.trod enc P w 0 (fun _ => true) held n f3.type [v3] = some y3 ∧ DataW.trod enc P w 0 (fun _ => true) held n f4.type [v4] = some y4 := by
  obtain ⟨cs, rfl, hsz⟩ := okWide_struct hs hv
  have hz := hsz.trans hC
  obtain ⟨l⟩ := cs
  match l, hz with
  | [c0, c1, c2, c3, c4], _ =>
    obtain ⟨fuel, hf⟩ := h
    obtain ⟨xs, n, _, _, hl, hlen, hf⟩ := DataW.trod_struct hs hf
    match xs, hlen with
    | [y0, y1, y2, y3, y4], _ =>
      obtain ⟨o0, k0⟩ := hone_of hone 0 f0 rfl
      obtain ⟨o1, k1⟩ := hone_of hone 1 f1 rfl
      obtain ⟨o2, k2⟩ := hone_of hone 2 f2 rfl
      obtain ⟨o3, k3⟩ := hone_of hone 3 f3 rfl
      obtain ⟨o4, k4⟩ := hone_of hone 4 f4 rfl
      have h0 := hf 0 f0 rfl
      have h1 := hf 1 f1 rfl
      have h2 := hf 2 f2 rfl
      have h3 := hf 3 f3 rfl
      have h4 := hf 4 f4 rfl
      exact ⟨c0, c1, c2, c3, c4, y0, y1, y2, y3, y4, n, rfl, by simpa [Value.cells, o0, k0] using h0, by simpa [Value.cells, o1, k1] using h1, by simpa [Value.cells, o2, k2] using h2, by simpa [Value.cells, o3, k3] using h3, by simpa [Value.cells, o4, k4] using h4⟩
/-- A slice of structs of a number and a slice of numbers. -/
theorem nodes {α : Type} (d : Kd α) (hsz : d.sz = 2) (mk : Int → List Int → α) (hK : ∀ op set A1 c1, set.length ≤ c1 → (Kd.int .i64).C w A1 set.length set → d.K w (mk op set) [.int .i64 op, .slice A1 set.length c1])
    {t e qe : TypeId} {f0 f1 : Field} {fuel : Nat} {v : Value} {x : DataW H × List MemPlace} (ht : P.underlying t = some (.slice e)) (hs : P.underlying e = some (.struct #[f0, f1])) (hone : oneCellFields P #[f0, f1] = true) (hC : P.cellsOf e = 2)
    (h0 : P.underlying f0.type = some (.int .i64)) (h1 : P.underlying f1.type = some (.slice qe)) (hq : P.underlying qe = some (.int .i64)) (cq : P.cellsOf qe = 1)
    (h : DataW.trod enc P w 0 (fun _ => true) held fuel t [v] = some x) :
    ∃ A l c, v = .slice A l.length c ∧ l.length ≤ c ∧ Kd.C d w A l.length l ∧ l.length ≤ 9223372036854775807 ∧ ∀ y ∈ l, ∃ op set, y = mk op set ∧ set.length ≤ 9223372036854775807 ∧ (Lit.int .i64 op).wf = true ∧ ∀ n ∈ set, (Lit.int .i64 n).wf = true := by
  rcases open_slice ht h with ⟨e1, _⟩ | ⟨a, len, cap, m, n, D, Pl, e1, _, hl, hm, hmm, _, hx⟩
  · injection e1 with e1
    subst e1
    exact ⟨none, [], 0, rfl, Nat.le_refl _, ⟨rfl, by simp, fun h => absurd h (by simp)⟩, by simp, fun y hy => by cases hy⟩
  · injection e1 with e1
    subst e1
    simp only [if_true] at hmm
    have hmx : cap ≤ 9223372036854775807 := hm
    have each : ∀ i, i < len → ∃ y : Int × List Int × Option Addr × Nat, w.cell? (a.add (i * 2)) = some (.int .i64 y.1) ∧ w.cell? (a.add (i * 2 + 1)) = some (.slice y.2.2.1 y.2.1.length y.2.2.2) ∧ y.2.1.length ≤ y.2.2.2 ∧ (Kd.int .i64).C w y.2.2.1 y.2.1.length y.2.1 ∧ y.2.1.length ≤ 9223372036854775807 ∧ (Lit.int .i64 y.1).wf = true ∧ ∀ n ∈ y.2.1, (Lit.int .i64 n).wf = true := by
      intro i hi
      obtain ⟨cs', g1, g2⟩ := hx i (by omega)
      rw [hC] at g1
      obtain ⟨_, g3, g4⟩ := World.cells?_some g1
      match cs', g3 with
      | [u0, u1], _ =>
        have c0 := g4 0 (by omega)
        have c1 := g4 1 (by omega)
        simp only [Addr.add_add] at c0 c1
        obtain ⟨y0, y1, n', _, _, r0, r1⟩ := trod_struct2 hs g2
        obtain ⟨o0, k0⟩ := hone_of hone 0 f0 rfl
        obtain ⟨o1, k1⟩ := hone_of hone 1 f1 rfl
        rw [o0, k0] at r0
        rw [o1, k1] at r1
        obtain ⟨op, rfl, hop⟩ := intv h0 r0
        obtain ⟨A1, set, c1', rfl, q1, q2, q3, q4⟩ := ints h1 hq cq r1
        exact ⟨(op, set, A1, c1'), by simpa using c0, by simpa using c1, q1, q2, q3, hop, q4⟩
    obtain ⟨Y, hY⟩ := choose_lt (α := Int × List Int × Option Addr × Nat) (p := fun i y => w.cell? (a.add (i * 2)) = some (.int .i64 y.1) ∧ w.cell? (a.add (i * 2 + 1)) = some (.slice y.2.2.1 y.2.1.length y.2.2.2) ∧ y.2.1.length ≤ y.2.2.2 ∧ (Kd.int .i64).C w y.2.2.1 y.2.1.length y.2.1 ∧ y.2.1.length ≤ 9223372036854775807 ∧ (Lit.int .i64 y.1).wf = true ∧ ∀ n ∈ y.2.1, (Lit.int .i64 n).wf = true) each
    have hlen : ((List.range len).map fun i => mk (Y i).1 (Y i).2.1).length = len := by simp
    refine ⟨some a, (List.range len).map fun i => mk (Y i).1 (Y i).2.1, cap, by rw [hlen], by omega, ⟨rfl, by omega, fun _ => ⟨a, rfl, fun j p hj => ?_⟩⟩, by omega, fun y hy => ?_⟩
    · obtain ⟨hl2, hp⟩ := List.getElem?_eq_some_iff.1 hj
      have hjl : j < len := by omega
      have hp' : p = mk (Y j).1 (Y j).2.1 := by rw [← hp]; simp
      subst hp'
      obtain ⟨g1, g2, g3, g4, _⟩ := hY j hjl
      refine ⟨[.int .i64 (Y j).1, .slice (Y j).2.2.1 (Y j).2.1.length (Y j).2.2.2], by rw [hsz]; rfl, hK _ _ _ _ g3 g4, fun i u hu => ?_⟩
      rw [hsz]
      match i with
      | 0 =>
        have : Value.int .i64 (Y j).1 = u := by simpa using hu
        subst this
        exact g1
      | 1 =>
        have : Value.slice (Y j).2.2.1 (Y j).2.1.length (Y j).2.2.2 = u := by simpa using hu
        subst this
        exact g2
      | i + 2 => simp at hu
    · obtain ⟨j, hj, rfl⟩ := List.mem_map.1 hy
      obtain ⟨_, _, _, _, g5, g6, g7⟩ := hY j (List.mem_range.1 hj)
      exact ⟨_, _, rfl, g5, g6, g7⟩
end
end Go.Proofs.Ytaeaeejfaffbpaa.Open
