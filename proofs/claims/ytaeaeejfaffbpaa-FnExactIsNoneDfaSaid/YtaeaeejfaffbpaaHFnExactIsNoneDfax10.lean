/- Written by wip/pr.py of this session, for the law FnExactIsNoneDfa: Lean functions with the answers of the program's, and the proofs of that; where the kit's print has no word, by hand. -/
import Derived.Test.YtaeaeejfaffbpaaHFnExactIsNoneDfax0
import Derived.Test.YtaeaeejfaffbpaaHFnExactIsNoneDfax9
namespace Go.Proofs.Ytaeaeejfaffbpaa.HFnExactIsNoneDfa
open Go.RowKit Go.Proofs.YtaeaeejfaffbpaaW.PrintWords Go.Proofs.YtaeaeejfaffbpaaW.PrintLast Go.Proofs.YtaeaeejfaffbpaaW.PrintMore
attribute [local go_sem] max2_int min2_int max_two min_two max_three min_three max_four min_four   -- for this text's walks alone
set_option linter.unusedVariables false
set_option linter.unusedSimpArgs false

/-! ### impl_shortIn: function 64 -/
structure S77 where
  f0 : Int
  f1 : (List Int)
def z77 : S77 := ⟨(0 : Int), ([] : List Int)⟩
def k77 : Kd S77 := Kd.iso (Kd.pair (Kd.int .i64) (Kd.slice 3 (Kd.int .i64))) (fun x : S77 => (x.f0, x.f1))
theorem k77_open {w : World} {x : S77} {cs : List Value} (h : k77.K w x cs) : ∃ A1 c1, cs = [.int .i64 x.f0, .slice A1 x.f1.length c1] ∧ x.f1.length ≤ c1 ∧ (Kd.int .i64).C w A1 x.f1.length x.f1 := by
  obtain ⟨_, _, rfl, rfl, ⟨A1, c1, rfl, l1, g1⟩⟩ := h
  exact ⟨A1, c1, rfl, l1, g1⟩
theorem k77_openM {w : World} {base : Nat} {ok : Nat → Prop} {x : S77} {cs : List Value} (h : k77.M w base ok x cs) : ∃ v1, cs = [.int .i64 x.f0, v1] ∧ (Kd.int .i64).R 3 w base ok v1 x.f1 := by
  obtain ⟨_, _, rfl, rfl, ⟨v1, rfl, g1⟩⟩ := h
  exact ⟨v1, rfl, g1⟩
theorem k77_mk (w : World) (x : S77) {A1 : Option Addr} {c1 : Nat} (l1 : x.f1.length ≤ c1) (g1 : (Kd.int .i64).C w A1 x.f1.length x.f1) : k77.K w x [.int .i64 x.f0, .slice A1 x.f1.length c1] := ⟨[.int .i64 x.f0], [.slice A1 x.f1.length c1], rfl, rfl, ⟨A1, c1, rfl, l1, g1⟩⟩
theorem k77_mkM (w : World) (base : Nat) (ok : Nat → Prop) (x : S77) {v1 : Value} (g1 : (Kd.int .i64).R 3 w base ok v1 x.f1) : k77.M w base ok x [.int .i64 x.f0, v1] := ⟨[.int .i64 x.f0], [v1], rfl, rfl, ⟨v1, rfl, g1⟩⟩
theorem k77_openF {W : World} {ok : Nat → Prop} {x : S77} {cs : List Value} (h : Kd.FK k77 W ok x cs) : ∃ A1 c1, cs = [.int .i64 x.f0, .slice A1 x.f1.length c1] ∧ x.f1.length ≤ c1 ∧ Kd.F (Kd.int .i64) W ok A1 x.f1.length x.f1 := by
  obtain ⟨A1, c1, rfl, l1, _⟩ := k77_open (Kd.FK_now h)
  exact ⟨A1, c1, rfl, l1, (fun W' hW => by obtain ⟨A1_, c1_, he, l1_, g1_⟩ := k77_open (h W' hW); injection (Option.some.inj (show some (Value.slice A1 x.f1.length c1) = some (Value.slice A1_ x.f1.length c1_) from congrArg (fun l => l[1]?) he)) with ha_ _ _; rw [ha_]; exact g1_)⟩
theorem k77_mkF (W : World) (ok : Nat → Prop) (x : S77) {A1 : Option Addr} {c1 : Nat} (l1 : x.f1.length ≤ c1) (g1 : Kd.F (Kd.int .i64) W ok A1 x.f1.length x.f1) : Kd.FK k77 W ok x [.int .i64 x.f0, .slice A1 x.f1.length c1] := fun W2 hW => k77_mk W2 x l1 (g1 W2 hW)
def rd_T77 (xs : List S77) (i : Int) : S77 := xs.getD i.toNat z77
theorem at_T77 {w : World} {A : Option Addr} {n : Nat} {xs : List S77} (h : Kd.C k77 w A n xs) (i : Int) (h0 : 0 ≤ i) (h1 : i < n) : ∃ ad A1 c1, A = some ad ∧ w.cell? (ad.add (i.toNat * 2)) = some (.int .i64 (rd_T77 xs i).f0) ∧ w.cell? ⟨(ad.add (i.toNat * 2)).block, (ad.add (i.toNat * 2)).off + 1, none⟩ = some (.slice A1 (rd_T77 xs i).f1.length c1) ∧ (rd_T77 xs i).f1.length ≤ c1 ∧ (Kd.int .i64).C w A1 (rd_T77 xs i).f1.length (rd_T77 xs i).f1 := by
  obtain ⟨ad, c, e, _, hK, hc0⟩ := Kd.C_get h z77 i h0 h1
  have hc : ∀ j u, c[j]? = some u → w.cell? (ad.add (i.toNat * 2 + j)) = some u := hc0
  obtain ⟨A1, c1, rfl, l1, g1⟩ := k77_open hK
  exact ⟨ad, A1, c1, e, hc 0 _ rfl, by rw [← add_field _ _ 1 (by omega)]; exact hc 1 _ rfl, l1, g1⟩
/-- The next list of the states that a state leads to: what is seen for the first time joins the queue. -/
def shI (cuts lst row : List Int) : Nat → Nat → List S77 → List Bool → Option (List S77 × List Bool)
  | 0, _, t, s => some (t, s)
  | d + 1, i, t, s => if 0 ≤ row.getD i 0 ∧ row.getD i 0 < (s.length : Int) then (if rdOf false s (row.getD i 0) = true then shI cuts lst row d (i + 1) t s else if (i = 0 ∨ i - 1 < cuts.length) ∧ lst.length < 1099511627776 ∧ t.length < 1099511627776 then shI cuts lst row d (i + 1) (t ++ [⟨row.getD i 0, lst ++ [if i = 0 then 0 else cuts.getD (i - 1) 0]⟩]) (s.set (row.getD i 0).toNat true) else none) else none
def shO (cuts : List Int) (next : List (List Int)) (final : List Bool) : Nat → List S77 → List Bool → Option Bool
  | 0, _, _ => none
  | _ + 1, [], _ => some false
  | k + 1, p :: t, s => if 0 ≤ p.f0 ∧ p.f0 < (final.length : Int) ∧ p.f0 < (next.length : Int) then (if rdOf false final p.f0 = true then some true else (shI cuts p.f1 (next.getD p.f0.toNat []) (next.getD p.f0.toNat []).length 0 t s).bind fun x => shO cuts next final k x.1 x.2) else none
def impl_shortIn.f (k : Nat) (cuts : List Int) (next : List (List Int)) (final : List Bool) : Option Bool := if 0 < next.length ∧ next.length ≤ 1000000 then shO cuts next final k [⟨0, []⟩] ((List.replicate next.length false).set 0 true) else none
theorem shO.mono (cuts : List Int) (next : List (List Int)) (final : List Bool) : ∀ k t s, LeO (shO cuts next final k t s) (shO cuts next final (k + 1) t s)
  | 0, _, _ => LeO.none _
  | k + 1, [], _ => LeO.refl _
  | k + 1, p :: t, s => LeO.ite (LeO.ite (LeO.refl _) (LeO.bind (LeO.refl _) (fun x => shO.mono cuts next final k x.1 x.2))) (LeO.refl _)
theorem impl_shortIn.mono : ∀ a0 a1 a2 k, LeO (impl_shortIn.f k a0 a1 a2) (impl_shortIn.f (k + 1) a0 a1 a2) := fun a0 a1 a2 k => LeO.ite (shO.mono a0 a1 a2 k _ _) (LeO.refl _)
theorem und78m : Try.prog.underlying 78 = some (.slice 77) := by kernel_rfl
theorem info77m : (Try.prog.info? 77).map (fun i => (i.zero, i.size, i.bytes)) = some (some (.agg #[.int .i64 0, .slice none 0 0]), 2, 32) := by kernel_rfl
theorem und30m : Try.prog.underlying 30 = some (.slice 4) := by kernel_rfl
theorem info4m : (Try.prog.info? 4).map (fun i => (i.zero, i.size, i.bytes)) = some (some (.bool false), 1, 1) := by kernel_rfl
theorem info3m : (Try.prog.info? 3).map (fun i => (i.zero, i.size, i.bytes)) = some (some (.int .i64 0), 1, 8) := by kernel_rfl
theorem und22m : Try.prog.underlying 22 = some (.slice 3) := by kernel_rfl
theorem at_rowm {α : Type} {d : Kd α} {e : Nat} {w : World} {A : Option Addr} {n : Nat} {xs : List (List α)} (h : Kd.C (Kd.slice e d) w A n xs) (i : Int) (h0 : 0 ≤ i) (h1 : i < n) : ∃ ad A0 c0, A = some ad ∧ w.cell? (ad.add i.toNat) = some (.slice A0 (xs.getD i.toNat []).length c0) ∧ (xs.getD i.toNat []).length ≤ c0 ∧ d.C w A0 (xs.getD i.toNat []).length (xs.getD i.toNat []) := by
  obtain ⟨ad, c, e, _, hK, hc0⟩ := Kd.C_get h ([] : List α) i h0 h1
  have hc : ∀ j u, c[j]? = some u → w.cell? (ad.add (i.toNat * 1 + j)) = some u := hc0
  obtain ⟨A0, c0, rfl, l0, g0⟩ := hK
  exact ⟨ad, A0, c0, e, by have hq := hc 0 _ rfl; rwa [Nat.mul_one, Nat.add_zero] at hq, l0, g0⟩
/-- The block of the states that are seen. -/
def bArr (s : List Bool) : Array Value := (s.map Value.bool).toArray
theorem bArr_get {s : List Bool} {j : Int} (h0 : 0 ≤ j) (h : j < (s.length : Int)) : (bArr s)[j.toNat]? = some (.bool (rdOf false s j)) := by
  unfold bArr rdOf
  have hl : j.toNat < s.length := by omega
  rw [List.getElem?_toArray, List.getElem?_map, List.getElem?_eq_getElem hl, List.getD_eq_getElem?_getD, List.getElem?_eq_getElem hl]; rfl
theorem bArr_set (s : List Bool) (i : Nat) (b : Bool) : (bArr s).setIfInBounds i (.bool b) = bArr (s.set i b) := by
  unfold bArr
  rw [List.setIfInBounds_toArray, List.map_set]
theorem made_bArr (n : Nat) : madeCells #[.bool false] n = bArr (List.replicate n false) := by
  unfold madeCells bArr
  apply Array.ext'
  simp [Nat.mod_one, List.map_const']
theorem make30 (n : Nat) (hn : n ≤ 1000000) (W : World) : (Instr.makeSlice 30 (.int .i64 (n : Int)) (.int .i64 (n : Int))).run Try.prog W = .ok (.slice (some ⟨W.heap.size, 0, none⟩) n n) (W.alloc (.cells (bArr (List.replicate n false)) 4)) := by
  obtain ⟨i, hi, hz, hs, hb⟩ := info_parts info4m
  have := run_makeSlice (P := Try.prog) W 30 4 i _ und30m hi hz .i64 .i64 (n : Int) (n : Int) (by omega) (by omega) (by rw [hs]; omega) (by rw [hb]; omega) (by omega)
  rw [hs, show ((n : Int)).toNat = n from by omega, Nat.mul_one, show (Value.bool false).cells = #[.bool false] from rfl, made_bArr] at this
  exact this
/-- What holds while the states are walked. -/
structure ShSt (w W : World) (gd gs : Nat) (a b c : Value) (seen : List Bool) (v : Value) (todo : List S77) : Prop where
  below : Below w.heap.size w W
  dat : W.heap[gd]? = some (.cells #[a, b, c] 35 (0, 0))
  sn : W.heap[gs]? = some (.cells (bArr seen) 4 (0, 0))
  que : Kd.Q k77 77 W w.heap.size (fun k => k ≠ gd ∧ k ≠ gs) v todo
/-- What holds while a state's row is walked. -/
structure ShIn (w W : World) (ga g : Nat) (a b c : Value) (p : S77) (Al : Option Addr) (cl : Nat) (seen : List Bool) (v : Value) (todo : List S77) : Prop where
  below : Below w.heap.size w W
  dat : W.heap[w.heap.size]? = some (.cells #[a, b, c] 35 (0, 0))
  sn : W.heap[w.heap.size + 1]? = some (.cells (bArr seen) 4 (0, 0))
  atb : W.heap[ga]? = some (.cells #[.int .i64 p.f0, .slice Al p.f1.length cl] 77 (0, 0))
  que : Kd.Q k77 77 W w.heap.size (fun k => (k ≠ w.heap.size ∧ k ≠ w.heap.size + 1) ∧ k ≠ ga) v todo
  own : ∀ k, v.ownBlock = some k → k = g ∨ ga < k
  lst : Kd.R (Kd.int .i64) 3 W w.heap.size (fun k => k ≠ w.heap.size ∧ k ≠ w.heap.size + 1 ∧ k ≠ g ∧ k < ga) (.slice Al p.f1.length cl) p.f1
  sz : ga < W.heap.size
  gl : g < ga
  gs : w.heap.size + 1 < ga
theorem ShIn.put {w W : World} {ga g : Nat} {a b c : Value} {p : S77} {Al : Option Addr} {cl : Nat} {seen : List Bool} {v : Value} {todo : List S77} (h : ShIn w W ga g a b c p Al cl seen v todo) (q : Nat) : ShIn w (W.setCell ⟨w.heap.size + 1, q, none⟩ (.bool true)) ga g a b c p Al cl (seen.set q true) v todo :=
  have hgs := h.gs
  ⟨below_set h.below (by show w.heap.size ≤ w.heap.size + 1; omega), blk_far h.dat (by show w.heap.size ≠ w.heap.size + 1; omega) _, blk_put h.sn q (.bool true) (bArr_set seen q true), blk_far h.atb (by show ga ≠ w.heap.size + 1; omega) _,
    Kd.Q_far h.que (p := ⟨w.heap.size + 1, q, none⟩) (fun k hk => hk.1.2) _, h.own, Kd.R_far h.lst (p := ⟨w.heap.size + 1, q, none⟩) (fun k hk => hk.2.1) _, by simpa using h.sz, h.gl, h.gs⟩
theorem ShIn.go {w W W' : World} {ga g : Nat} {a b c : Value} {p : S77} {Al : Option Addr} {cl : Nat} {seen : List Bool} {v : Value} {todo : List S77} (h : ShIn w W ga g a b c p Al cl seen v todo) (hb : Below W.heap.size W W') : ShIn w W' ga g a b c p Al cl seen v todo :=
  ⟨h.below.trans (hb.mono h.below.size), blk_below h.dat hb, blk_below h.sn hb, blk_below h.atb hb, Kd.Q_below h.que hb, h.own, Kd.R_below h.lst hb, Nat.lt_of_lt_of_le h.sz hb.size, h.gl, h.gs⟩
theorem ShIn.app {w W W' : World} {ga g : Nat} {a b c : Value} {p : S77} {Al : Option Addr} {cl : Nat} {seen : List Bool} {v v1 : Value} {todo todo1 : List S77} (h : ShIn w W ga g a b c p Al cl seen v todo) (ho : Kd.Q k77 77 W' w.heap.size (fun k => (k ≠ w.heap.size ∧ k ≠ w.heap.size + 1) ∧ k ≠ ga) v1 todo1) (hb : Below w.heap.size w W') (hg : W.grownBy W' v.ownBlock) (hsz : W.heap.size ≤ W'.heap.size) (hat : v1.ownBlock = v.ownBlock ∨ ∃ b, v1.ownBlock = some b ∧ W.heap.size ≤ b) : ShIn w W' ga g a b c p Al cl seen v1 todo1 :=
  have n0 : some w.heap.size ≠ v.ownBlock := Kd.Q_away h.que (fun k hk => hk.1.1)
  have n1 : some (w.heap.size + 1) ≠ v.ownBlock := Kd.Q_away h.que (fun k hk => hk.1.2)
  have n2 : some ga ≠ v.ownBlock := Kd.Q_away h.que (fun k hk => hk.2)
  ⟨hb, (hg.block _ (blk_lt h.dat) n0).trans h.dat, (hg.block _ (blk_lt h.sn) n1).trans h.sn, (hg.block _ (blk_lt h.atb) n2).trans h.atb, ho, fun k hk => by
      have hz := h.sz
      rcases hat with e | ⟨b, e, hle⟩
      · exact h.own k (by rw [← e]; exact hk)
      · rw [e] at hk
        have := Option.some.inj hk
        omega,
    Kd.R_grown h.lst hg (fun k hk e => by
      have h1 := h.own k e.symm
      have h2 := hk.2.2.1
      have h3 := hk.2.2.2
      omega), Nat.lt_of_lt_of_le h.sz hsz, h.gl, h.gs⟩
theorem que0 (W : World) (base : Nat) (hb : base ≤ W.heap.size) (ok : Nat → Prop) (hok : ok W.heap.size) : Kd.Q k77 77 (W.alloc (.cells #[.int .i64 0, .slice none 0 0] 77)) base ok (.slice (some ⟨W.heap.size, 0, none⟩) 1 1) [⟨0, []⟩] :=
  ⟨fun k hk => by
    have e : W.heap.size = k := Option.some.inj hk
    exact e ▸ hok, [.int .i64 0, .slice none 0 0], ⟨rfl, .inr ⟨W.heap.size, 0, 1, _, by simp, hb, blk_new W _, Nat.le_refl _, by decide, rfl, rfl⟩⟩, Reps.c2 (k77_mkM _ _ _ ⟨0, []⟩ (Kd.R_nil _ _ _ _ _)) (Reps.none _ _)⟩
set_option maxHeartbeats 8000000 in
set_option maxRecDepth 100000 in
theorem impl_shortIn.calls (k : Nat) (A0 : Option Addr) (c0 : Nat) (cuts : List Int) (A1 : Option Addr) (c1 : Nat) (next : List (List Int)) (A2 : Option Addr) (c2 : Nat) (final : List Bool) (r : Bool) (w : World) (hr0 : Kd.C (Kd.int .i64) w A0 cuts.length cuts) (hc0 : cuts.length ≤ c0) (hr1 : Kd.C (Kd.slice 3 (Kd.int .i64)) w A1 next.length next) (hc1 : next.length ≤ c1) (hr2 : Kd.C Kd.bool w A2 final.length final) (hc2 : final.length ≤ c2) (h : impl_shortIn.f k cuts next final = some r) :
    Calls Try.prog 64 #[.agg #[.slice A0 cuts.length c0, .slice A1 next.length c1, .slice A2 final.length c2]] w fun e w' => ∃ v0_ : Value, e = .returned (.tuple #[v0_, .bool r]) ∧ Below w.heap.size w w' := by
  unfold impl_shortIn.f at h
  split at h
  case isFalse => cases h
  rename_i hn
  obtain ⟨hn0, hn1⟩ := hn
  have H0 := Aside0.mk hr0
  have H1 := Aside0.mk hr1
  have H2 := Aside0.mk hr2
  have HH := Aside0.mk h
  clear hr0 hr1 hr2 h hc0 hc1 hc2
  have hu1 := Try.underlying35
  have hu2 := Try.underlying77
  have hmk := make30 next.length hn1
  go_enter Try.func64, Try.ntmps64
  have qn0 : (0 : Int) < (next.length : Int) := by omega
  have hb0 : (bArr (List.replicate next.length false))[0]? = some (.bool false) := by
    have := bArr_get (s := List.replicate next.length false) (j := 0) (Int.le_refl 0) (by simpa using hn0)
    rw [Int.toNat_zero] at this
    rw [this]
    simp [rdOf, List.getD_eq_getElem?_getD, hn0]
  have hbs := bArr_set (List.replicate next.length false) 0 true
  go_wp2
  go_loopg [5] k (fun gg v5 wr => ∃ (kk : Nat) (todo : List S77) (seen : List Bool), kk ≤ gg ∧ Aside0 (shO cuts next final kk todo seen = some r) ∧ Aside0 (seen.length = next.length) ∧ Aside0 (ShSt w wr w.heap.size (w.heap.size + 1) (.slice A0 cuts.length c0) (.slice A1 next.length c1) (.slice A2 final.length c2) seen v5 todo))
  case atStart =>
    refine ⟨k, _, _, Nat.le_refl _, HH, ⟨by simp⟩, ⟨?_, ?_, ?_, ?_⟩⟩
    · exact below_alloc (below_alloc (below_alloc (Below.refl _ _) _) _) _
    · exact blk_alloc (blk_alloc (blk_new w _) _) _
    · have hs1 : (w.alloc (.cells #[.slice A0 cuts.length c0, .slice A1 next.length c1, .slice A2 final.length c2] 35)).heap.size = w.heap.size + 1 := by simp
      have := blk_new (w.alloc (.cells #[.slice A0 cuts.length c0, .slice A1 next.length c1, .slice A2 final.length c2] 35)) (.cells (bArr ((List.replicate next.length false).set 0 true)) 4)
      rw [hs1] at this
      exact blk_alloc this _
    · have hs2 : ((w.alloc (.cells #[.slice A0 cuts.length c0, .slice A1 next.length c1, .slice A2 final.length c2] 35)).alloc (.cells (bArr ((List.replicate next.length false).set 0 true)) 4)).heap.size = w.heap.size + 1 + 1 := by simp
      have := que0 ((w.alloc (.cells #[.slice A0 cuts.length c0, .slice A1 next.length c1, .slice A2 final.length c2] 35)).alloc (.cells (bArr ((List.replicate next.length false).set 0 true)) 4)) w.heap.size (by rw [hs2]; omega) (fun k => k ≠ w.heap.size ∧ k ≠ w.heap.size + 1) (by rw [hs2]; omega)
      rw [hs2] at this
      exact this
  case round =>
    clear hmk hb0 hbs HH
    obtain ⟨kk, todo, seen, hkk, HH, HN, HST⟩ := hrel
    cases kk with
    | zero => exact absurd HH.out (by simp [shO])
    | succ kk =>
      cases todo with
      | nil =>
        have hr : false = r := Option.some.inj HH.out
        subst hr
        obtain ⟨At, ct, hv, hlt⟩ := Kd.Q_slice HST.out.que
        subst hv
        have HB := Aside0.mk HST.out.below
        clear HST HH HN
        go_wp2
        go_ret2
        exact ⟨_, rfl, HB.out⟩
      | cons p t =>
        obtain ⟨g, o, cap, hv, hg0, hgl, _⟩ := Kd.Q_form HST.out.que (by simp)
        subst hv
        obtain ⟨c, hcl, hcM, hcc, hcf⟩ := Kd.Q_elem HST.out.que p 0 (Int.le_refl 0) (by simp)
        obtain ⟨v1, rfl, HL⟩ := k77_openM hcM
        have e0 : ((p :: t).getD (0 : Int).toNat p) = p := rfl
        rw [e0] at HL hcc
        obtain ⟨Al, cl, hv1⟩ := Kd.R_slice HL
        subst hv1
        have hx0 : wr.cell? ⟨g, o, none⟩ = some (.int .i64 p.f0) := by have := hcc 0 _ rfl; simpa using this
        have hx1 : wr.cell? ⟨g, o + 1, none⟩ = some (.slice Al p.f1.length cl) := by have := hcc 1 _ rfl; simpa using this
        have HLL := Aside0.mk HL
        have HH1 := HH.out
        simp only [shO] at HH1
        split at HH1
        case isFalse => cases HH1
        rename_i hpn
        obtain ⟨hp0, hp1, hp2⟩ := hpn
        have hlen : ((p :: t).length : Int) = (t.length : Int) + 1 := by simp
        have q0 : (0 : Int) < ((p :: t).length : Int) := by omega
        have q1 : (1 : Int) ≤ ((p :: t).length : Int) := by omega
        have hcap := (Kd.Q_reads' HST.out.que).2.1
        obtain ⟨i0, hi0, _, hsz, _⟩ := info_parts info77m
        have hcut := cut_from (P := Try.prog) 78 77 .i64 und78m hi0 2 hsz (some ⟨g, o, none⟩) (p :: t).length cap 1 (by omega) q1
        have hqd := Kd.Q_drop (k := (1 : Int).toNat) HST.out.que (by simp)
        obtain ⟨Ac, hAc⟩ : ∃ Ac : Option Addr, Ac = (if cap = (1 : Int).toNat then some ⟨g, o, none⟩ else (some (⟨g, o, none⟩ : Addr)).map (·.add ((1 : Int).toNat * 2))) := ⟨_, rfl⟩
        obtain ⟨cc, hcc1⟩ : ∃ cc, cc = cap - (1 : Int).toNat := ⟨_, rfl⟩
        have hlen1 : (p :: t).length - (1 : Int).toNat = t.length := by simp
        rw [← hAc, ← hcc1, hlen1] at hcut
        have hQ1 : Kd.Q k77 77 wr w.heap.size (fun k => k ≠ w.heap.size ∧ k ≠ w.heap.size + 1) (.slice Ac t.length cc) t := by
          rw [hAc, hcc1, ← hlen1]; exact hqd
        have HOB : Aside0 ((Value.slice Ac t.length cc).ownBlock = some g) := ⟨by rw [hAc]; split <;> rfl⟩
        have HQ1 := Aside0.mk hQ1
        have hap : (p :: t).length = t.length + 1 := by simp
        rw [hap] at hcut
        clear hQ1 hqd hAc hcc1 hlen1 hi0 hsz
        obtain ⟨ad2, e2, hx2⟩ := Kd.at_bool (Kd.C_below H2.out HST.out.below) p.f0 hp0 hp1
        subst e2
        have q2 : (0 : Int) ≤ p.f0 := hp0
        have q3 : p.f0 < (final.length : Int) := hp1
        have q4 : p.f0 < (next.length : Int) := hp2
        have hd0 : wr.cell? ⟨w.heap.size, 0, none⟩ = some (.slice A0 cuts.length c0) := (blk_cell HST.out.dat 0).trans rfl
        have hd1 : wr.cell? ⟨w.heap.size, 1, none⟩ = some (.slice A1 next.length c1) := (blk_cell HST.out.dat 1).trans rfl
        have hd2 : wr.cell? ⟨w.heap.size, 2, none⟩ = some (.slice (some ad2) final.length c2) := (blk_cell HST.out.dat 2).trans rfl
        have hlt0 : w.heap.size < wr.heap.size := blk_lt HST.out.dat
        have hlt1 : w.heap.size + 1 < wr.heap.size := blk_lt HST.out.sn
        have hlt2 := World.block_lt_of_cell? wr _ hx2
        clear hcc hcM hcl e0 HL
        cases hf : rdOf false final p.f0 with
        | true =>
          rw [hf] at HH1 hx2
          have hr : true = r := by simpa using HH1
          subst hr
          have HB := Aside0.mk HST.out.below
          clear HH1 HST HH HN HQ1 HLL
          go_wp2
          go_ret2
          exact ⟨_, rfl, by repeat (first | (with_reducible first | exact HB.out | apply pw_below_drewN | apply below_drew1 | apply below_alloc))⟩
        | false =>
          rw [hf] at HH1 hx2
          rw [if_neg (by simp)] at HH1
          obtain ⟨⟨t', s'⟩, hI, hO⟩ := Option.bind_eq_some_iff.mp HH1
          have HI := Aside0.mk hI
          have HO := Aside0.mk hO
          clear HH1 HH hI hO
          obtain ⟨ad1, Ar, cr, e1, hx3w, hcr, hCr⟩ := at_rowm H1.out p.f0 hp0 (by omega)
          subst e1
          have hx3 := (HST.out.below.cell (World.block_lt_of_cell? w _ hx3w)).trans hx3w
          have hlt3 := World.block_lt_of_cell? wr _ hx3
          obtain ⟨row, hrow⟩ : ∃ row, row = next.getD p.f0.toNat [] := ⟨_, rfl⟩
          rw [← hrow] at HI hCr hx3 hcr
          have HCR := Aside0.mk hCr
          have hrl : row.length ≤ 9223372036854775807 := hCr.2.1
          have HIN := Aside0.mk (show ShIn w (wr.alloc (.cells #[.int .i64 p.f0, .slice Al p.f1.length cl] 77)) wr.heap.size g (.slice A0 cuts.length c0) (.slice (some ad1) next.length c1) (.slice (some ad2) final.length c2) p Al cl seen (.slice Ac t.length cc) t from
            ⟨below_alloc HST.out.below _, blk_alloc HST.out.dat _, blk_alloc HST.out.sn _, blk_new wr _,
              Kd.Q_alloc (Kd.Q_elderB HQ1.out _ (Nat.le_refl _)) _, fun k hk => .inl (by rw [HOB.out] at hk; exact (Option.some.inj hk).symm),
              Kd.R_alloc (Kd.R_mono (Kd.R_bound HLL.out) (fun k hk => ⟨hk.1.1.1, hk.1.1.2, hk.1.2, hk.2.2.1⟩)) _, by simp, hgl, blk_lt HST.out.sn⟩)
          clear hrow hCr hx3w HQ1 HLL HST
          go_wp2
          clear hx0 hx1 hd0 hd1 hd2 hcf hcut hx2 hx3 hlt0 hlt1 hlt2 hlt3 hcr
          obtain ⟨Wo, rfl⟩ : ∃ Wo, Wo = wr := ⟨wr, rfl⟩
          go_loopg [5, 41] row.length (fun gg v5 v41 W => ∃ (j : Nat) (todo : List S77) (seen : List Bool), j ≤ row.length ∧ row.length - j ≤ gg ∧ v41 = .int .i64 (j : Int) ∧ Aside0 (shI cuts p.f1 row (row.length - j) j todo seen = some (t', s')) ∧ Aside0 (seen.length = next.length) ∧ Aside0 (ShIn w W Wo.heap.size g (.slice A0 cuts.length c0) (.slice (some ad1) next.length c1) (.slice (some ad2) final.length c2) p Al cl seen v5 todo))
          case atStart => exact ⟨0, t, seen, Nat.zero_le _, by omega, rfl, HI, HN, HIN⟩
          case round =>
            clear HIN HI HN
            obtain ⟨j, todo, seen, hj, hg, rfl, HI, HN, HIN⟩ := hrel
            by_cases hlt : j < row.length
            · obtain ⟨d, hd⟩ : ∃ d, row.length - j = d + 1 := ⟨row.length - j - 1, by omega⟩
              have hI := HI.out
              rw [hd] at hI
              simp only [shI] at hI
              split at hI
              case isFalse => cases hI
              rename_i hto
              obtain ⟨q, hq⟩ : ∃ q : Nat, row.getD j 0 = (q : Int) := ⟨(row.getD j 0).toNat, by omega⟩
              rw [hq] at hI hto
              have hqs : q < seen.length := by omega
              have hqn : q < next.length := by have := HN.out; omega
              obtain ⟨adr, er, hxr⟩ := Kd.at_int (Kd.C_below HCR.out HIN.out.below) (j : Int) (by omega) (by omega)
              subst er
              have hrd : rd row (j : Int) = (q : Int) := by unfold rd; simpa using hq
              rw [hrd, Int.toNat_natCast] at hxr
              have hs : wr.cell? ⟨w.heap.size + 1, q, none⟩ = some (.bool (rdOf false seen (q : Int))) := by
                have h1 := bArr_get (s := seen) (j := (q : Int)) (by omega) (by omega)
                rw [Int.toNat_natCast] at h1
                exact (blk_cell HIN.out.sn q).trans h1
              have hsf := blk_frozen HIN.out.sn q
              have k1 : decide (j < row.length) = true := decide_eq_true hlt
              have k2 : (j : Int) < (row.length : Int) := by omega
              have k3 : (q : Int) < (next.length : Int) := by omega
              have k4 : decide (q < next.length) = true := decide_eq_true hqn
              cases hsq : rdOf false seen (q : Int) with
              | true =>
                rw [hsq] at hI hs
                rw [if_pos rfl] at hI
                have HI2 := Aside0.mk (show shI cuts p.f1 row (row.length - (j + 1)) (j + 1) todo seen = some (t', s') by rw [show row.length - (j + 1) = d from by omega]; exact hI)
                clear hI
                go_wp2
                go_roundg (row.length - (j + 1))
                case measure => omega
                case rel => exact ⟨j + 1, todo, seen, by omega, by omega, by go_num, HI2, HN, HIN⟩
              | false =>
                rw [hsq] at hI hs
                rw [if_neg (by simp)] at hI
                split at hI
                case isFalse => cases hI
                rename_i hb
                obtain ⟨hb1, hb2, hb3⟩ := hb
                have HI2 := Aside0.mk (show shI cuts p.f1 row (row.length - (j + 1)) (j + 1) (todo ++ [⟨(q : Int), p.f1 ++ [if j = 0 then 0 else cuts.getD (j - 1) 0]⟩]) (seen.set q true) = some (t', s') by rw [show row.length - (j + 1) = d from by omega]; exact hI)
                have HN2 := Aside0.mk (show (seen.set q true).length = next.length by rw [List.length_set]; exact HN.out)
                have HIN1 := Aside0.mk (HIN.out.put q)
                obtain ⟨by_, hby⟩ : ∃ b : Int, b = (if j = 0 then 0 else cuts.getD (j - 1) 0) := ⟨_, rfl⟩
                rw [← hby] at HI2
                obtain ⟨At, ct, hv5⟩ := Kd.Q_slice HIN.out.que
                have hv5 := hv5.1
                subst hv5
                have HB2 := Aside0.mk hb2
                have HB3 := Aside0.mk hb3
                clear hI HN HI
                have HCL := Aside0.mk (Kd.R_reads' HIN1.out.lst).2.2
                have hlc := (Kd.R_reads' HIN1.out.lst).2.1
                have hcf1 : slices_Clone_int_int.f p.f1 = some p.f1 := by unfold slices_Clone_int_int.f; rw [if_pos (by omega)]
                have HLT := Aside0.mk (Kd.Q_lt HIN1.out.que)
                have HG1 := Aside0.mk HIN1.out.sz
                have HG2 := Aside0.mk HIN1.out.gs
                have key : Aside0 (by_ = if j = 0 then 0 else rd cuts ((j : Int) - 1)) := ⟨by
                  rw [hby]
                  by_cases e : j = 0
                  · rw [if_pos e, if_pos e]
                  · rw [if_neg e, if_neg e]; unfold rd; rw [show ((j : Int) - 1).toNat = j - 1 from by omega]⟩
                clear hby
                have hw1 : IntKind.i64.wrap ((j : Int) - 1) = (j : Int) - 1 := by rw [IntKind.wrap_i64]; omega
                have hat1 : (wr.setCell ⟨w.heap.size + 1, q, none⟩ (.bool true)).cell? ⟨Wo.heap.size, 1, none⟩ = some (.slice Al p.f1.length cl) := (blk_cell HIN1.out.atb 1).trans rfl
                by_cases hj0 : j = 0
                · have hby0 : by_ = 0 := by rw [key.out, if_pos hj0]
                  subst hby0
                  have k7 : decide (0 < j) = false := decide_eq_false (by omega)
                  clear hb1 hb2 hb3 hw1 key hj0
                  go_wp2_with (first | (go_at_call 70; (with_reducible refine (slices_Clone_int_int.calls Al cl p.f1 p.f1 _ ?sideC hlc hcf1).mono ?_); (case sideC => exact HCL.out); rintro e wC ⟨vC, rfl, hoC, hbC⟩; obtain ⟨AC, cC, eC⟩ := Kd.R_slice hoC; subst eC; have HOC := Aside0.mk hoC; have HBC := Aside0.mk hbC; clear hoC hbC) | ((with_reducible refine gate_builtin (b := .append) (xs := #[.tmp 65, .tmp 67]) rfl ?_); at_builtin; refine Kd.R_append (Kd.int .i64) (w0 := (wr.setCell ⟨w.heap.size + 1, q, none⟩ (.bool true))) ((wr.setCell ⟨w.heap.size + 1, q, none⟩ (.bool true))).heap.size rfl (.tmp 65) (.tmp 67) 22 3 (.int .i64 0) 8 rfl und22m info3m rfl (Nat.zero_lt_one) (by omega) (.slice AC p.f1.length cC) p.f1 0 [.int .i64 0] (fun _ => True) (fun _ => False) rfl rfl ?aP (fun _ hk => hk.elim) (fun _ _ => trivial) HOC.out HBC.out HBC.out.size ?aL ?_; (case aP => exact rfl); (case aL => have := HB2.out; omega); intro v68 w68 ho hb hg0 hat0; have HIN3 := Aside0.mk (HIN1.out.go hb); have HO68 := Aside0.mk ho; clear ho hb hg0 hat0 HOC HBC; obtain ⟨A68, c68, e68⟩ := Kd.R_slice HO68.out; subst e68; have HO69 : Aside0 (Kd.R (Kd.int .i64) 3 w68 (wr.setCell ⟨w.heap.size + 1, q, none⟩ (.bool true)).heap.size (fun _ => True) (.slice A68 (p.f1.length + 1) c68) (p.f1 ++ [0])) := ⟨by have h_ := HO68.out; rw [List.length_append, List.length_singleton] at h_; exact h_⟩ ) | ((with_reducible refine gate_builtin (b := .append) (xs := #[.tmp 61, .tmp 70]) rfl ?_); at_builtin; refine Kd.Q_append k77 (w0 := w) w.heap.size rfl (.tmp 61) (.tmp 70) 78 77 (.agg #[.int .i64 0, .slice none 0 0]) 32 rfl und78m info77m rfl (by decide) (by omega) (.slice At todo.length ct) todo ⟨(q : Int), p.f1 ++ [0]⟩ [.int .i64 (q : Int), _] (fun k => (k ≠ w.heap.size ∧ k ≠ w.heap.size + 1) ∧ k ≠ Wo.heap.size) (fun k => ((wr.setCell ⟨w.heap.size + 1, q, none⟩ (.bool true))).heap.size ≤ k) rfl rfl ?aP ?aK ?aF HIN3.out.que HIN3.out.below HIN3.out.below.size ?aL ?_; (case aP => exact k77_mkM _ _ _ ⟨(q : Int), p.f1 ++ [0]⟩ (Kd.R_lower (Kd.R_mono (Kd.R_bound HO69.out) (fun k hk => hk.2.1)) HIN1.out.below.size)); (case aK => exact fun k hk => ⟨by have h1 := HG1.out; have h2 := HG2.out; omega, fun e => by have := HLT.out k e.symm; omega⟩); (case aF => exact fun k hk => by have h1 := HIN3.out.sz; have h2 := HG2.out; omega); (case aL => have := HB3.out; omega); intro v71 w71 ho hb hg hat; have HIN4 := Aside0.mk (HIN3.out.app ho hb hg hg.size hat); clear ho hb hg hat))
                  go_roundg (row.length - (j + 1))
                  case measure => omega
                  case rel => exact ⟨j + 1, _, _, by omega, by omega, by go_num, HI2, HN2, HIN4⟩
                · have hcl : (j : Int) - 1 < (cuts.length : Int) := by omega
                  obtain ⟨adc, ec, hxc⟩ := Kd.at_int (Kd.C_below H0.out HIN1.out.below) ((j : Int) - 1) (by omega) hcl
                  subst ec
                  have hd0 : (wr.setCell ⟨w.heap.size + 1, q, none⟩ (.bool true)).cell? ⟨w.heap.size, 0, none⟩ = some (.slice (some adc) cuts.length c0) := (blk_cell HIN1.out.dat 0).trans rfl
                  rw [show rd cuts ((j : Int) - 1) = by_ from by rw [key.out, if_neg hj0]] at hxc
                  have hxc2 := hxc
                  rw [show ((j : Int) - 1).toNat = j - 1 from by omega] at hxc2
                  have k5 : (0 : Int) < (j : Int) := by omega
                  have k6 : (0 : Int) ≤ (j : Int) - 1 := by omega
                  have k7 : decide (0 < j) = true := decide_eq_true (by omega)
                  have hne : w.heap.size + 1 ≠ w.heap.size := by omega
                  clear hb1 hb2 hb3 key
                  go_wp2_with (first | (go_at_call 70; (with_reducible refine (slices_Clone_int_int.calls Al cl p.f1 p.f1 _ ?sideC hlc hcf1).mono ?_); (case sideC => exact HCL.out); rintro e wC ⟨vC, rfl, hoC, hbC⟩; obtain ⟨AC, cC, eC⟩ := Kd.R_slice hoC; subst eC; have HOC := Aside0.mk hoC; have HBC := Aside0.mk hbC; clear hoC hbC) | ((with_reducible refine gate_builtin (b := .append) (xs := #[.tmp 65, .tmp 67]) rfl ?_); at_builtin; refine Kd.R_append (Kd.int .i64) (w0 := (wr.setCell ⟨w.heap.size + 1, q, none⟩ (.bool true))) ((wr.setCell ⟨w.heap.size + 1, q, none⟩ (.bool true))).heap.size rfl (.tmp 65) (.tmp 67) 22 3 (.int .i64 0) 8 rfl und22m info3m rfl (Nat.zero_lt_one) (by omega) (.slice AC p.f1.length cC) p.f1 by_ [.int .i64 by_] (fun _ => True) (fun _ => False) rfl rfl ?aP (fun _ hk => hk.elim) (fun _ _ => trivial) HOC.out HBC.out HBC.out.size ?aL ?_; (case aP => exact rfl); (case aL => have := HB2.out; omega); intro v68 w68 ho hb hg0 hat0; have HIN3 := Aside0.mk (HIN1.out.go hb); have HO68 := Aside0.mk ho; clear ho hb hg0 hat0 HOC HBC; obtain ⟨A68, c68, e68⟩ := Kd.R_slice HO68.out; subst e68; have HO69 : Aside0 (Kd.R (Kd.int .i64) 3 w68 (wr.setCell ⟨w.heap.size + 1, q, none⟩ (.bool true)).heap.size (fun _ => True) (.slice A68 (p.f1.length + 1) c68) (p.f1 ++ [by_])) := ⟨by have h_ := HO68.out; rw [List.length_append, List.length_singleton] at h_; exact h_⟩ ) | ((with_reducible refine gate_builtin (b := .append) (xs := #[.tmp 61, .tmp 70]) rfl ?_); at_builtin; refine Kd.Q_append k77 (w0 := w) w.heap.size rfl (.tmp 61) (.tmp 70) 78 77 (.agg #[.int .i64 0, .slice none 0 0]) 32 rfl und78m info77m rfl (by decide) (by omega) (.slice At todo.length ct) todo ⟨(q : Int), p.f1 ++ [by_]⟩ [.int .i64 (q : Int), _] (fun k => (k ≠ w.heap.size ∧ k ≠ w.heap.size + 1) ∧ k ≠ Wo.heap.size) (fun k => ((wr.setCell ⟨w.heap.size + 1, q, none⟩ (.bool true))).heap.size ≤ k) rfl rfl ?aP ?aK ?aF HIN3.out.que HIN3.out.below HIN3.out.below.size ?aL ?_; (case aP => exact k77_mkM _ _ _ ⟨(q : Int), p.f1 ++ [by_]⟩ (Kd.R_lower (Kd.R_mono (Kd.R_bound HO69.out) (fun k hk => hk.2.1)) HIN1.out.below.size)); (case aK => exact fun k hk => ⟨by have h1 := HG1.out; have h2 := HG2.out; omega, fun e => by have := HLT.out k e.symm; omega⟩); (case aF => exact fun k hk => by have h1 := HIN3.out.sz; have h2 := HG2.out; omega); (case aL => have := HB3.out; omega); intro v71 w71 ho hb hg hat; have HIN4 := Aside0.mk (HIN3.out.app ho hb hg hg.size hat); clear ho hb hg hat))
                  go_roundg (row.length - (j + 1))
                  case measure => omega
                  case rel => exact ⟨j + 1, _, _, by omega, by omega, by go_num, HI2, HN2, HIN4⟩
            · obtain rfl : j = row.length := by omega
              have k1 : decide (row.length < row.length) = false := decide_eq_false (by omega)
              have hI := HI.out
              rw [Nat.sub_self] at hI
              simp only [shI, Option.some.injEq, Prod.mk.injEq] at hI
              obtain ⟨rfl, rfl⟩ := hI
              have HST2 := Aside0.mk (show ShSt w wr w.heap.size (w.heap.size + 1) (.slice A0 cuts.length c0) (.slice (some ad1) next.length c1) (.slice (some ad2) final.length c2) seen _ todo from ⟨HIN.out.below, HIN.out.dat, HIN.out.sn, Kd.Q_mono HIN.out.que (fun k hk => hk.1)⟩)
              clear HI HIN
              go_wp2
              go_roundg kk
              case measure => omega
              case rel => exact ⟨kk, todo, seen, by omega, HO, HN, HST2⟩

/-! ### impl_IsNoneDfa: function 30 -/
def impl_IsNoneDfa.f (k : Nat) (l0_0 : List Int) (l0_1 : List (List Int)) (l0_2 : List Bool) : Option (Bool × Bool) := (impl_GoodDfa.f k l0_0 l0_1 l0_2).bind fun t => if t = true then ((impl_shortIn.f k l0_0 l0_1 l0_2).bind fun b => some (!b, true)) else some (false, false)
theorem impl_IsNoneDfa.mono : ∀ a0 a1 a2 k, LeO (impl_IsNoneDfa.f k a0 a1 a2) (impl_IsNoneDfa.f (k + 1) a0 a1 a2) := fun a0 a1 a2 k => LeO.bind (impl_GoodDfa.mono a0 a1 a2 k) (fun _ => LeO.ite (LeO.bind (impl_shortIn.mono a0 a1 a2 k) (fun _ => LeO.refl _)) (LeO.refl _))
set_option maxHeartbeats 8000000 in
set_option maxRecDepth 100000 in
theorem impl_IsNoneDfa.calls (k : Nat) (A0_0 : Option Addr) (c0_0 : Nat) (l0_0 : List Int) (A0_1 : Option Addr) (c0_1 : Nat) (l0_1 : List (List Int)) (A0_2 : Option Addr) (c0_2 : Nat) (l0_2 : List Bool) (r1 r2 : Bool) (w : World) (hr0_0 : Kd.C (Kd.int .i64) w A0_0 l0_0.length l0_0) (hc0_0 : l0_0.length ≤ c0_0) (hr0_1 : Kd.C (Kd.slice 3 (Kd.int .i64)) w A0_1 l0_1.length l0_1) (hc0_1 : l0_1.length ≤ c0_1) (hr0_2 : Kd.C Kd.bool w A0_2 l0_2.length l0_2) (hc0_2 : l0_2.length ≤ c0_2) (h : impl_IsNoneDfa.f k l0_0 l0_1 l0_2 = some (r1, r2)) :
    Calls Try.prog 30 #[.agg #[.slice A0_0 l0_0.length c0_0, .slice A0_1 l0_1.length c0_1, .slice A0_2 l0_2.length c0_2]] w fun e w' => e = .returned (.tuple #[.bool r1, .bool r2]) ∧ Below w.heap.size w w' := by
  have hu := Try.underlying35
  obtain ⟨t, ht, h⟩ := Option.bind_eq_some_iff.mp h
  have HG := Aside0.mk (fun (W : World) (hb : Below w.heap.size w W) => impl_GoodDfa.calls k A0_0 c0_0 l0_0 A0_1 c0_1 l0_1 A0_2 c0_2 l0_2 t W (Kd.C_below hr0_0 hb) hc0_0 (Kd.C_below hr0_1 hb) hc0_1 (Kd.C_below hr0_2 hb) hc0_2 ht)
  cases t with
  | false =>
    rw [if_neg (by simp)] at h
    simp only [Option.some.injEq, Prod.mk.injEq] at h
    obtain ⟨rfl, rfl⟩ := h
    clear hr0_0 hr0_1 hr0_2
    go_enter Try.func30, Try.ntmps30
    go_wp2_with (go_at_call 20; (with_reducible refine (HG.out _ ?side).mono ?_); (case side => repeat (first | (with_reducible first | exact Below.refl _ _ | apply pw_below_drewN | apply below_drew1 | apply below_alloc))); rintro e w1 ⟨rfl, hb⟩; have HB := Aside0.mk hb; clear hb)
    go_ret2
    exact ⟨rfl, by first | exact HB.out | exact (below_alloc (Below.refl _ _) _).trans (HB.out.mono (by simp))⟩
  | true =>
    rw [if_pos rfl] at h
    obtain ⟨b, hb, h⟩ := Option.bind_eq_some_iff.mp h
    simp only [Option.some.injEq, Prod.mk.injEq] at h
    obtain ⟨rfl, rfl⟩ := h
    have HS := Aside0.mk (fun (W : World) (hb2 : Below w.heap.size w W) => impl_shortIn.calls k A0_0 c0_0 l0_0 A0_1 c0_1 l0_1 A0_2 c0_2 l0_2 b W (Kd.C_below hr0_0 hb2) hc0_0 (Kd.C_below hr0_1 hb2) hc0_1 (Kd.C_below hr0_2 hb2) hc0_2 hb)
    clear hr0_0 hr0_1 hr0_2 hb
    go_enter Try.func30, Try.ntmps30
    go_wp2_with (first | (go_at_call 20; (with_reducible refine (HG.out _ ?side).mono ?_); (case side => repeat (first | (with_reducible first | exact Below.refl _ _ | apply pw_below_drewN | apply below_drew1 | apply below_alloc))); rintro e w1 ⟨rfl, hb⟩; have HB := Aside0.mk hb; have hd := blk_below (blk_new w (.cells #[.slice A0_0 l0_0.length c0_0, .slice A0_1 l0_1.length c0_1, .slice A0_2 l0_2.length c0_2] 35)) hb; have hq0 : w1.cell? ⟨w.heap.size, 0, none⟩ = some (.slice A0_0 l0_0.length c0_0) := (blk_cell hd 0).trans rfl; have hq1 : w1.cell? ⟨w.heap.size, 1, none⟩ = some (.slice A0_1 l0_1.length c0_1) := (blk_cell hd 1).trans rfl; have hq2 : w1.cell? ⟨w.heap.size, 2, none⟩ = some (.slice A0_2 l0_2.length c0_2) := (blk_cell hd 2).trans rfl; clear hb hd) | (go_at_call 64; (with_reducible refine (HS.out _ ?side).mono ?_); (case side => exact (below_alloc (Below.refl _ _) _).trans (HB.out.mono (by simp))); rintro e w2 ⟨v2, rfl, hb⟩; have HB2 := Aside0.mk (((below_alloc (Below.refl w.heap.size w) _).trans (HB.out.mono (by simp))).trans (hb.mono (Nat.le_trans (by simp) HB.out.size))); clear hb))
    go_ret2
    exact ⟨rfl, HB2.out⟩

end Go.Proofs.Ytaeaeejfaffbpaa.HFnExactIsNoneDfa
