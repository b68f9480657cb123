/- Written by wip/pr.py of this session, for the law FnExactIsNoneDfa: Lean functions with the answers of the program's, and the proofs of that; where the kit's print has no word, by hand. -/
import Derived.Test.YtaeaeejfaffbpaaHFnExactIsNoneDfax0
import Derived.Test.YtaeaeejfaffbpaaHFnExactIsNoneDfax8
namespace Go.Proofs.Ytaeaeejfaffbpaa.HFnExactIsNoneDfa
open Go.RowKit Go.Proofs.YtaeaeejfaffbpaaW.PrintWords Go.Proofs.YtaeaeejfaffbpaaW.PrintLast Go.Proofs.YtaeaeejfaffbpaaW.PrintMore
attribute [local go_sem] max2_int min2_int max_two min_two max_three min_three max_four min_four   -- for this text's walks alone
set_option linter.unusedVariables false
set_option linter.unusedSimpArgs false

/-! ### impl_GoodDfa: function 20 -/
/-- The place of the first for which p holds, or -1. -/
def ixOf {α : Type} (p : α → Bool) : List α → Int
  | [] => -1
  | x :: r => if p x = true then 0 else if ixOf p r < 0 then -1 else ixOf p r + 1
theorem ixOf_any {α : Type} (p : α → Bool) (l : List α) : decide (0 ≤ ixOf p l) = l.any p ∧ -1 ≤ ixOf p l := by
  induction l with
  | nil => exact ⟨rfl, Int.le_refl _⟩
  | cons x r ih =>
    obtain ⟨h1, h2⟩ := ih
    rw [List.any_cons, ← h1]
    cases hp : p x with
    | true => simp [ixOf, hp]
    | false =>
      by_cases h : ixOf p r < 0
      · simp only [ixOf, hp, Bool.false_eq_true, if_false, if_pos h, Bool.false_or]
        exact ⟨by rw [Bool.eq_iff_iff]; simp; omega, by omega⟩
      · simp only [ixOf, hp, Bool.false_eq_true, if_false, if_neg h, Bool.false_or]
        exact ⟨by rw [Bool.eq_iff_iff]; simp; omega, by omega⟩
theorem ixOf_hit {α : Type} (p : α → Bool) : ∀ (l : List α) (k : Nat) (h : k < l.length), (∀ j (hj : j < l.length), j < k → p l[j] = false) → p l[k] = true → ixOf p l = (k : Int)
  | [], k, h, _, _ => absurd h (Nat.not_lt_zero _)
  | x :: r, 0, h, _, hp => by simp at hp; simp [ixOf, hp]
  | x :: r, k + 1, h, hj, hp => by
    have h0 : p x = false := hj 0 (by simp) (by omega)
    have ih := ixOf_hit p r k (by simpa using h) (fun j hj' hlt => hj (j + 1) (by simp; omega) (by omega)) hp
    have : ¬ ((k : Int) < 0) := by omega
    simp [ixOf, h0, ih, this]
theorem ixOf_miss {α : Type} (p : α → Bool) (l : List α) (h : ∀ j (hj : j < l.length), p l[j] = false) : ixOf p l = -1 := by
  have h1 : l.any p = false := by
    rw [List.any_eq_false]
    intro x hx
    obtain ⟨j, hj, rfl⟩ := List.mem_iff_getElem.1 hx
    simp [h j hj]
  have h2 := ixOf_any p l
  rw [h1] at h2
  have := of_decide_eq_false h2.1
  omega

theorem ixInt (p : Int → Bool) (g : Nat) (lb : Array Value) (eg : ∀ args w, (callFunc g args).run Try.prog w = .ok (.enter g args) w) (A : Option Addr) (c : Nat) (zs : List Int) (w : World)
    (hp : ∀ (W : World) (x : Int), Below w.heap.size w W → Calls Try.prog g (#[.int .i64 x] ++ lb) W fun e w' => e = .returned (.bool (p x)) ∧ Below W.heap.size W w')
    (hr : Kd.C (Kd.int .i64) w A zs.length zs) :
    Calls Try.prog 77 #[.slice A zs.length c, .func (.func g) #[] lb] w fun e w' => e = .returned (.int .i64 (ixOf p zs)) ∧ Below w.heap.size w w' := by
  have hbig : zs.length ≤ 9223372036854775807 := hr.2.1
  have HR := Aside0.mk hr
  have HP := Aside0.mk hp
  clear hr hp
  go_enter Try.func77, Try.ntmps77
  go_wp2
  go_loopg [5, 8] zs.length (fun gg _ s8 wr => ∃ kk : Nat, kk ≤ zs.length ∧ zs.length - kk ≤ gg ∧ s8 = .int .i64 kk ∧ Aside0 (Below w.heap.size w wr) ∧ Aside0 (∀ j (hj : j < zs.length), j < kk → p zs[j] = false))
  case atStart => exact ⟨0, Nat.zero_le _, by omega, rfl, ⟨Below.refl _ _⟩, ⟨fun j _ hj => absurd hj (Nat.not_lt_zero _)⟩⟩
  case round =>
    obtain ⟨kk, hkk, hg, rfl, HB, HA⟩ := hrel
    by_cases hlt : kk < zs.length
    · have hltz : (kk : Int) < (zs.length : Int) := by omega
      obtain ⟨ad, e0, hx0⟩ := Kd.at_int HR.out (kk : Int) (by omega) hltz
      subst e0
      have ek : rd zs (kk : Int) = zs[kk] := by unfold rd; simp [List.getD_eq_getElem?_getD, hlt]
      rw [ek] at hx0
      simp only [Int.toNat_natCast] at hx0
      replace hx0 := (HB.out.cell (World.block_lt_of_cell? w _ hx0)).trans hx0
      have EK := Aside0.mk ek
      clear ek
      have hcall := HP.out _ zs[kk] HB.out
      cases hq : p zs[kk] with
      | true =>
        rw [hq] at hcall
        have HQ := Aside0.mk hq
        clear hq
        go_wp2_with (go_at_fn g; refine hcall.mono ?_; rintro e w' ⟨rfl, hb⟩)
        go_ret
        exact ⟨by rw [ixOf_hit p zs kk hlt HA.out HQ.out]; rfl, HB.out.trans (hb.mono HB.out.size)⟩
      | false =>
        rw [hq] at hcall
        have HQ := Aside0.mk hq
        clear hq
        go_wp2_with (go_at_fn g; refine hcall.mono ?_; rintro e w' ⟨rfl, hb⟩)
        go_roundg (zs.length - (kk + 1))
        case measure => omega
        case rel =>
          refine ⟨kk + 1, by omega, by omega, by go_num, ⟨HB.out.trans (hb.mono HB.out.size)⟩, ⟨fun j hj hjk => ?_⟩⟩
          by_cases e : j = kk
          · subst e
            exact HQ.out
          · exact HA.out j hj (by omega)
    · have hltz : ¬ (kk : Int) < (zs.length : Int) := by omega
      have hk2 : kk = zs.length := by omega
      have HK := Aside0.mk hk2
      clear hk2
      go_wp2
      go_ret
      exact ⟨by rw [ixOf_miss p zs (fun j hj => HA.out j hj (by rw [HK.out]; exact hj))]; rfl, HB.out⟩

theorem hasInt (p : Int → Bool) (g : Nat) (lb : Array Value) (eg : ∀ args w, (callFunc g args).run Try.prog w = .ok (.enter g args) w) (A : Option Addr) (c : Nat) (zs : List Int) (w : World)
    (hp : ∀ (W : World) (x : Int), Below w.heap.size w W → Calls Try.prog g (#[.int .i64 x] ++ lb) W fun e w' => e = .returned (.bool (p x)) ∧ Below W.heap.size W w')
    (hr : Kd.C (Kd.int .i64) w A zs.length zs) :
    Calls Try.prog 50 #[.slice A zs.length c, .func (.func g) #[] lb] w fun e w' => e = .returned (.bool (zs.any p)) ∧ Below w.heap.size w w' := by
  have hc := ixInt p g lb eg A c zs w hp hr
  have h2 := (ixOf_any p zs).1
  clear hp hr
  generalize ixOf p zs = i at hc h2
  have H2 := Aside0.mk h2
  clear h2
  go_enter Try.func50, Try.ntmps50
  go_wp2_with (go_at_call 77; refine hc.mono ?_; rintro e w' ⟨rfl, hb⟩)
  go_ret
  exact ⟨by rw [H2.out]; rfl, hb⟩

theorem at_row {w : World} {A : Option Addr} {n : Nat} {xs : List (List Int)} (h : Kd.C (Kd.slice 3 (Kd.int .i64)) w A n xs) (i : Nat) (hi : i < xs.length) (hn : n = xs.length) : ∃ ad A0 c0, A = some ad ∧ w.cell? (ad.add i) = some (.slice A0 (xs[i]).length c0) ∧ (xs[i]).length ≤ c0 ∧ (Kd.int .i64).C w A0 (xs[i]).length (xs[i]) := by
  obtain ⟨ad, c, e, _, hK, hc0⟩ := Kd.C_get h ([] : List Int) (i : Int) (by omega) (by omega)
  rw [Int.toNat_natCast] at hK hc0
  have hc : ∀ j u, c[j]? = some u → w.cell? (ad.add (i * 1 + j)) = some u := hc0
  have ex : xs.getD i ([] : List Int) = xs[i] := by simp [List.getD_eq_getElem?_getD, hi]
  rw [ex] at hK
  obtain ⟨A0, c0, rfl, l0, g0⟩ := hK
  exact ⟨ad, A0, c0, e, by have hq := hc 0 _ rfl; rwa [Nat.mul_one, Nat.add_zero] at hq, l0, g0⟩
theorem ixRow (p : List Int → Bool) (g : Nat) (lb : Array Value) (eg : ∀ args w, (callFunc g args).run Try.prog w = .ok (.enter g args) w) (A : Option Addr) (c : Nat) (zs : List (List Int)) (w : World)
    (hp : ∀ (W : World) (Aj : Option Addr) (cj : Nat) (x : List Int), x ∈ zs → Below w.heap.size w W → Kd.C (Kd.int .i64) W Aj x.length x → x.length ≤ cj → Calls Try.prog g (#[.slice Aj x.length cj] ++ lb) W fun e w' => e = .returned (.bool (p x)) ∧ Below W.heap.size W w')
    (hr : Kd.C (Kd.slice 3 (Kd.int .i64)) w A zs.length zs) :
    Calls Try.prog 76 #[.slice A zs.length c, .func (.func g) #[] lb] w fun e w' => e = .returned (.int .i64 (ixOf p zs)) ∧ Below w.heap.size w w' := by
  have hbig : zs.length ≤ 9223372036854775807 := hr.2.1
  have HR := Aside0.mk hr
  have HP := Aside0.mk hp
  clear hr hp
  go_enter Try.func76, Try.ntmps76
  go_wp2
  go_loopg [5, 8] zs.length (fun gg _ s8 wr => ∃ kk : Nat, kk ≤ zs.length ∧ zs.length - kk ≤ gg ∧ s8 = .int .i64 kk ∧ Aside0 (Below w.heap.size w wr) ∧ Aside0 (∀ j (hj : j < zs.length), j < kk → p zs[j] = false))
  case atStart => exact ⟨0, Nat.zero_le _, by omega, rfl, ⟨Below.refl _ _⟩, ⟨fun j _ hj => absurd hj (Nat.not_lt_zero _)⟩⟩
  case round =>
    obtain ⟨kk, hkk, hg, rfl, HB, HA⟩ := hrel
    by_cases hlt : kk < zs.length
    · have hltz : (kk : Int) < (zs.length : Int) := by omega
      obtain ⟨ad, Aj, cj, e0, hx0, hcj, hrow⟩ := at_row HR.out kk hlt rfl
      subst e0
      replace hx0 := (HB.out.cell (World.block_lt_of_cell? w _ hx0)).trans hx0
      have hcall := HP.out _ Aj cj zs[kk] (List.getElem_mem _) HB.out (Kd.C_below hrow HB.out) hcj
      have HC := Aside0.mk hcj
      clear hcj hrow
      cases hq : p zs[kk] with
      | true =>
        rw [hq] at hcall
        have HQ := Aside0.mk hq
        clear hq
        go_wp2_with (go_at_fn g; refine hcall.mono ?_; rintro e w' ⟨rfl, hb⟩)
        go_ret
        exact ⟨by rw [ixOf_hit p zs kk hlt HA.out HQ.out]; rfl, HB.out.trans (hb.mono HB.out.size)⟩
      | false =>
        rw [hq] at hcall
        have HQ := Aside0.mk hq
        clear hq
        go_wp2_with (go_at_fn g; refine hcall.mono ?_; rintro e w' ⟨rfl, hb⟩)
        go_roundg (zs.length - (kk + 1))
        case measure => omega
        case rel =>
          refine ⟨kk + 1, by omega, by omega, by go_num, ⟨HB.out.trans (hb.mono HB.out.size)⟩, ⟨fun j hj hjk => ?_⟩⟩
          by_cases e : j = kk
          · subst e
            exact HQ.out
          · exact HA.out j hj (by omega)
    · have hltz : ¬ (kk : Int) < (zs.length : Int) := by omega
      have hk2 : kk = zs.length := by omega
      have HK := Aside0.mk hk2
      clear hk2
      go_wp2
      go_ret
      exact ⟨by rw [ixOf_miss p zs (fun j hj => HA.out j hj (by rw [HK.out]; exact hj))]; rfl, HB.out⟩

theorem hasRow (p : List Int → Bool) (g : Nat) (lb : Array Value) (eg : ∀ args w, (callFunc g args).run Try.prog w = .ok (.enter g args) w) (A : Option Addr) (c : Nat) (zs : List (List Int)) (w : World)
    (hp : ∀ (W : World) (Aj : Option Addr) (cj : Nat) (x : List Int), x ∈ zs → Below w.heap.size w W → Kd.C (Kd.int .i64) W Aj x.length x → x.length ≤ cj → Calls Try.prog g (#[.slice Aj x.length cj] ++ lb) W fun e w' => e = .returned (.bool (p x)) ∧ Below W.heap.size W w')
    (hr : Kd.C (Kd.slice 3 (Kd.int .i64)) w A zs.length zs) :
    Calls Try.prog 48 #[.slice A zs.length c, .func (.func g) #[] lb] w fun e w' => e = .returned (.bool (zs.any p)) ∧ Below w.heap.size w w' := by
  have hc := ixRow p g lb eg A c zs w hp hr
  have h2 := (ixOf_any p zs).1
  clear hp hr
  generalize ixOf p zs = i at hc h2
  have H2 := Aside0.mk h2
  clear h2
  go_enter Try.func48, Try.ntmps48
  go_wp2_with (go_at_call 76; refine hc.mono ?_; rintro e w' ⟨rfl, hb⟩)
  go_ret
  exact ⟨by rw [H2.out]; rfl, hb⟩
def badPlaceV (s : Int) (q0 : Int) : Bool := !decide (0 ≤ q0 ∧ q0 ≤ wrap64 (s - 1))
theorem inRangeV (a b c : Int) : impl_inRange.f a b c = some (decide (b ≤ a ∧ a ≤ c)) := by
  unfold impl_inRange.f
  by_cases h : b ≤ a
  · rw [if_pos h]; simp [h]
  · rw [if_neg h]; simp [h]
theorem isPlaceV (s q0 : Int) : impl_isPlace.f q0 s = some (!badPlaceV s q0) := by
  unfold impl_isPlace.f badPlaceV
  rw [inRangeV]
  simp
def badRowV (cuts : Nat) (s : Int) (row : List Int) : Bool := decide ((row.length : Int) ≠ (cuts : Int) + 1) || row.any (badPlaceV s)
theorem goodDfa_in (W : World) (gs : Nat) (s q0 : Int) (hs : W.cell? ⟨gs, 0, none⟩ = some (.int .i64 s)) :
    Calls Try.prog 51 (#[.int .i64 q0] ++ #[.pointer (some ⟨gs, 0, none⟩)]) W fun e w' => e = .returned (.bool (badPlaceV s q0)) ∧ Below W.heap.size W w' := by
  have hv := isPlaceV s q0
  generalize badPlaceV s q0 = q at hv
  have HV := Aside0.mk hv
  clear hv
  show Calls Try.prog 51 #[.int .i64 q0, .pointer (some ⟨gs, 0, none⟩)] W _
  go_enter Try.func51, Try.ntmps51
  go_wp2_with (go_at_call 52; refine (impl_isPlace.calls q0 s (!q) _ HV.out).mono ?_; rintro e w' ⟨rfl, ⟨nd, rfl⟩⟩)
  go_ret
  exact ⟨by simp, by repeat (first | (with_reducible first | exact Below.refl _ _ | apply pw_below_drewN | apply below_drew1 | apply below_alloc))⟩
theorem goodDfa_row (W : World) (gd gs : Nat) (A0 : Option Addr) (n0 c0 : Nat) (s : Int) (Aj : Option Addr) (cj : Nat) (x : List Int) (hd : W.cell? ⟨gd, 0, none⟩ = some (.slice A0 n0 c0)) (hs : W.cell? ⟨gs, 0, none⟩ = some (.int .i64 s)) (hr : Kd.C (Kd.int .i64) W Aj x.length x) (hc : x.length ≤ cj) (hn : n0 ≤ 1099511627776) :
    Calls Try.prog 49 (#[.slice Aj x.length cj] ++ #[.pointer (some ⟨gd, 0, none⟩), .pointer (some ⟨gs, 0, none⟩)]) W fun e w' => e = .returned (.bool (badRowV n0 s x)) ∧ Below W.heap.size W w' := by
  have hu := Try.underlying35
  have eg : ∀ args w, (callFunc 51 args).run Try.prog w = .ok (.enter 51 args) w := enters_of Try.func51 (by kernel_rfl) rfl
  have HH := Aside0.mk (fun (W' : World) (hb : Below W.heap.size W W') => hasInt (badPlaceV s) 51 #[.pointer (some ⟨gs, 0, none⟩)] eg Aj cj x W' (fun W2 y hb2 => goodDfa_in W2 gs s y (((hb.trans (hb2.mono hb.size)).cell (World.block_lt_of_cell? W _ hs)).trans hs)) (Kd.C_below hr hb))
  have hl : x.length ≤ 9223372036854775807 := hr.2.1
  have HBad := Aside0.mk (show badRowV n0 s x = (decide ((x.length : Int) ≠ (n0 : Int) + 1) || x.any (badPlaceV s)) from rfl)
  clear hr
  show Calls Try.prog 49 #[.slice Aj x.length cj, .pointer (some ⟨gd, 0, none⟩), .pointer (some ⟨gs, 0, none⟩)] W _
  by_cases h1 : (x.length : Int) ≠ (n0 : Int) + 1
  · have HD : Aside0 (badRowV n0 s x = true) := ⟨by rw [HBad.out, decide_eq_true h1]; rfl⟩
    have h1b : ((x.length : Int) != (n0 : Int) + 1) = true := by simpa using h1
    clear h1
    go_enter Try.func49, Try.ntmps49
    go_wp2
    go_ret
    exact ⟨by rw [HD.out]; rfl, Below.refl _ _⟩
  · have h1' : (x.length : Int) = (n0 : Int) + 1 := by simpa using h1
    have HD : Aside0 (badRowV n0 s x = x.any (badPlaceV s)) := ⟨by rw [HBad.out, decide_eq_false h1]; rfl⟩
    have h1b : ((x.length : Int) != (n0 : Int) + 1) = false := by simpa using h1'
    clear h1 h1'
    go_enter Try.func49, Try.ntmps49
    go_wp2_with (go_at_call 50; refine (HH.out _ (Below.refl _ _)).mono ?_; rintro e w' ⟨rfl, hb⟩)
    go_ret
    exact ⟨by rw [HD.out]; rfl, hb⟩
def impl_GoodDfa.f (k : Nat) (l0_0 : List Int) (l0_1 : List (List Int)) (l0_2 : List Bool) : Option (Bool) :=
  if (l0_0.length : Int) ≤ 40 then ((impl_isRising.f k l0_0 1 1114111).bind fun t => if t = true then (if 1 ≤ (l0_1.length : Int) ∧ (l0_1.length : Int) ≤ 60 then (if l0_2.length = l0_1.length then some (!l0_1.any (badRowV l0_0.length (l0_1.length : Int))) else some false) else some false) else some false) else some false
theorem impl_GoodDfa.mono : ∀ a0 a1 a2 k, LeO (impl_GoodDfa.f k a0 a1 a2) (impl_GoodDfa.f (k + 1) a0 a1 a2) := by
  intro a0 a1 a2 k
  unfold impl_GoodDfa.f
  repeat' first
      | (with_reducible exact impl_isRising.mono _ _ _ _)
      | (with_reducible exact LeO.refl _)
      | (with_reducible exact LeO.none _)
      | (with_reducible refine LeO.ite ?_ ?_)
      | (with_reducible refine LeO.bind ?_ (fun _ => ?_))
      | exact impl_isRising.mono _ _ _ _
set_option maxHeartbeats 8000000 in
set_option maxRecDepth 100000 in
theorem impl_GoodDfa.calls (k : Nat) (A0_0 : Option Addr) (c0_0 : Nat) (l0_0 : List Int) (A0_1 : Option Addr) (c0_1 : Nat) (l0_1 : List (List Int)) (A0_2 : Option Addr) (c0_2 : Nat) (l0_2 : List Bool) (r : Bool) (w : World) (hr0_0 : Kd.C (Kd.int .i64) w A0_0 l0_0.length l0_0) (hc0_0 : l0_0.length ≤ c0_0) (hr0_1 : Kd.C (Kd.slice 3 (Kd.int .i64)) w A0_1 l0_1.length l0_1) (hc0_1 : l0_1.length ≤ c0_1) (hr0_2 : Kd.C Kd.bool w A0_2 l0_2.length l0_2) (hc0_2 : l0_2.length ≤ c0_2) (h : impl_GoodDfa.f k l0_0 l0_1 l0_2 = some r) :
    Calls Try.prog 20 #[.agg #[.slice A0_0 l0_0.length c0_0, .slice A0_1 l0_1.length c0_1, .slice A0_2 l0_2.length c0_2]] w fun e w' => e = .returned (.bool r) ∧ Below w.heap.size w w' := by
  have hu := Try.underlying35
  have eg : ∀ args w, (callFunc 49 args).run Try.prog w = .ok (.enter 49 args) w := enters_of Try.func49 (by kernel_rfl) rfl
  unfold impl_GoodDfa.f at h
  have z0 : l0_0.length ≤ 9223372036854775807 := hr0_0.2.1
  have z1 : l0_1.length ≤ 9223372036854775807 := hr0_1.2.1
  have z2 : l0_2.length ≤ 9223372036854775807 := hr0_2.2.1
  obtain ⟨W0, hW0⟩ : ∃ W0, W0 = ((w.alloc (.cells #[.slice A0_0 l0_0.length c0_0, .slice A0_1 l0_1.length c0_1, .slice A0_2 l0_2.length c0_2] 35)).alloc (.cells #[.int .i64 (l0_1.length : Int)] 3)) := ⟨_, rfl⟩
  have hb0 : Below w.heap.size w W0 := by rw [hW0]; exact below_alloc (below_alloc (Below.refl _ _) _) _
  have hcell : ∀ W, Below W0.heap.size W0 W → W.cell? ⟨w.heap.size, 0, none⟩ = some (.slice A0_0 l0_0.length c0_0) ∧ W.cell? ⟨w.heap.size + 1, 0, none⟩ = some (.int .i64 (l0_1.length : Int)) := by
    intro W hb
    have g1 : W0.cell? ⟨w.heap.size, 0, none⟩ = some (.slice A0_0 l0_0.length c0_0) := by rw [hW0]; go_simp
    have g2 : W0.cell? ⟨w.heap.size + 1, 0, none⟩ = some (.int .i64 (l0_1.length : Int)) := by rw [hW0]; go_simp
    exact ⟨(hb.cell (World.block_lt_of_cell? W0 _ g1)).trans g1, (hb.cell (World.block_lt_of_cell? W0 _ g2)).trans g2⟩
  have HB0 := Aside0.mk hb0
  have HCell := Aside0.mk hcell
  have HR0 := Aside0.mk hr0_0
  have HR1 := Aside0.mk hr0_1
  clear hr0_0 hr0_1 hr0_2 hb0 hcell
  subst hW0
  by_cases c1 : (l0_0.length : Int) ≤ 40
  · have c1b : decide ((l0_0.length : Int) ≤ 40) = true := decide_eq_true c1
    have n0 : l0_0.length ≤ 1099511627776 := by omega
    rw [if_pos c1] at h
    clear c1
    obtain ⟨t, ht, h⟩ := Option.bind_eq_some_iff.mp h
    have HT := Aside0.mk ht
    clear ht
    cases t with
    | false =>
      rw [if_neg (by simp)] at h
      obtain rfl := Option.some.inj h
      clear h
      go_enter Try.func20, Try.ntmps20
      go_wp2_with (go_at_call 46; refine (impl_isRising.calls k A0_0 c0_0 l0_0 1 1114111 false _ (Kd.C_below HR0.out HB0.out) hc0_0 HT.out).mono ?_; rintro e w' ⟨rfl, ⟨nd, rfl⟩⟩)
      go_ret
      exact ⟨rfl, pw_below_drewN HB0.out _⟩
    | true =>
      rw [if_pos rfl] at h
      by_cases c2 : 1 ≤ (l0_1.length : Int) ∧ (l0_1.length : Int) ≤ 60
      · rw [if_pos c2] at h
        have HI := Aside0.mk ((inRangeV (l0_1.length : Int) 1 60).trans (by rw [decide_eq_true c2]))
        clear c2
        by_cases c3 : l0_2.length = l0_1.length
        · rw [if_pos c3] at h
          obtain rfl := Option.some.inj h
          clear h
          have c3a : ((l0_2.length : Int) == (l0_1.length : Int)) = true := by rw [c3]; simp
          have c3b : (l0_2.length == l0_1.length) = true := by rw [c3]; simp
          have c3c : decide (l0_2.length = l0_1.length) = true := decide_eq_true c3
          have HG := Aside0.mk (fun (W : World) (hb : Below _ _ W) => hasRow (badRowV l0_0.length (l0_1.length : Int)) 49 #[.pointer (some ⟨w.heap.size, 0, none⟩), .pointer (some ⟨w.heap.size + 1, 0, none⟩)] eg A0_1 c0_1 l0_1 W (fun W' Aj cj x _ hb' hr hc => goodDfa_row W' w.heap.size (w.heap.size + 1) A0_0 l0_0.length c0_0 (l0_1.length : Int) Aj cj x ((HCell.out W' (hb.trans (hb'.mono hb.size))).1) ((HCell.out W' (hb.trans (hb'.mono hb.size))).2) hr hc n0) (Kd.C_below HR1.out (HB0.out.trans (hb.mono HB0.out.size))))
          clear c3
          go_enter Try.func20, Try.ntmps20
          go_wp2_with (first | (go_at_call 46; refine (impl_isRising.calls k A0_0 c0_0 l0_0 1 1114111 true _ (Kd.C_below HR0.out HB0.out) hc0_0 HT.out).mono ?_; rintro e w' ⟨rfl, ⟨nd, rfl⟩⟩) | (go_at_call 47; refine (impl_inRange.calls _ 1 60 true _ HI.out).mono ?_; rintro e w' ⟨rfl, ⟨nd2, rfl⟩⟩) | (go_at_call 48; refine (HG.out _ (by repeat (first | (with_reducible first | exact Below.refl _ _ | apply pw_below_drewN | apply below_drew1)))).mono ?_; rintro e w' ⟨rfl, hb⟩))
          go_ret
          exact ⟨rfl, HB0.out.trans (((by repeat (first | (with_reducible first | exact Below.refl _ _ | apply pw_below_drewN | apply below_drew1)) : Below _ _ _).trans (hb.mono (Nat.le_refl _))).mono HB0.out.size)⟩
        · rw [if_neg c3] at h
          obtain rfl := Option.some.inj h
          clear h
          have c3a : ((l0_2.length : Int) == (l0_1.length : Int)) = false := by simpa using fun e : (l0_2.length : Int) = (l0_1.length : Int) => c3 (by omega)
          have c3b : (l0_2.length == l0_1.length) = false := by simpa using c3
          have c3c : decide (l0_2.length = l0_1.length) = false := decide_eq_false c3
          clear c3
          go_enter Try.func20, Try.ntmps20
          go_wp2_with (first | (go_at_call 46; refine (impl_isRising.calls k A0_0 c0_0 l0_0 1 1114111 true _ (Kd.C_below HR0.out HB0.out) hc0_0 HT.out).mono ?_; rintro e w' ⟨rfl, ⟨nd, rfl⟩⟩) | (go_at_call 47; refine (impl_inRange.calls _ 1 60 true _ HI.out).mono ?_; rintro e w' ⟨rfl, ⟨nd2, rfl⟩⟩))
          go_ret
          exact ⟨rfl, pw_below_drewN HB0.out _⟩
      · rw [if_neg c2] at h
        obtain rfl := Option.some.inj h
        clear h
        have HI := Aside0.mk ((inRangeV (l0_1.length : Int) 1 60).trans (by rw [decide_eq_false c2]))
        clear c2
        go_enter Try.func20, Try.ntmps20
        go_wp2_with (first | (go_at_call 46; refine (impl_isRising.calls k A0_0 c0_0 l0_0 1 1114111 true _ (Kd.C_below HR0.out HB0.out) hc0_0 HT.out).mono ?_; rintro e w' ⟨rfl, ⟨nd, rfl⟩⟩) | (go_at_call 47; refine (impl_inRange.calls _ 1 60 false _ HI.out).mono ?_; rintro e w' ⟨rfl, ⟨nd2, rfl⟩⟩))
        go_ret
        exact ⟨rfl, pw_below_drewN HB0.out _⟩
  · have c1b : decide ((l0_0.length : Int) ≤ 40) = false := decide_eq_false c1
    rw [if_neg c1] at h
    obtain rfl := Option.some.inj h
    clear h c1
    go_enter Try.func20, Try.ntmps20
    go_wp2
    go_ret
    exact ⟨rfl, HB0.out⟩

/-! ### slices_Clone_int_int: function 70 -/
def slices_Clone_int_int.f (l0 : List Int) : Option (List Int) := if l0.length < 17592186044416 then some l0 else none
set_option maxHeartbeats 8000000 in
set_option maxRecDepth 100000 in
theorem slices_Clone_int_int.calls (A0 : Option Addr) (c0 : Nat) (l0 : List Int) (r : List Int) (w : World) (hr0 : Kd.C (Kd.int .i64) w A0 l0.length l0) (hc0 : l0.length ≤ c0) (h : slices_Clone_int_int.f l0 = some r) :
    Calls Try.prog 70 #[.slice A0 l0.length c0] w fun e w' => ∃ v0_ : Value, e = .returned (v0_) ∧ Kd.R (Kd.int .i64) 3 w' w.heap.size (fun _ => True) v0_ r ∧ Below w.heap.size w w' := by
  unfold slices_Clone_int_int.f at h
  by_cases hl : l0.length < 17592186044416
  · rw [if_pos hl] at h
    obtain rfl := Option.some.inj h
    clear h
    have HR0 := Aside0.mk hr0
    have HL := Aside0.mk hl
    clear hl
    have HB := Aside0.mk (Below.refl w.heap.size w)
    have qe : ∀ (w : World) (a : Option Addr) (n c n' c' : Nat), (binOp .eql 22 (.slice a n c) (.slice none n' c')).run Try.prog w = .ok (.bool a.isNone) w := fun w a n c n' c' => Lib.run_eql_slice_nil w _ _ a n c n' c' Try.underlying22
    cases A0 with
    | none =>
      have hz : l0 = [] := by
        by_cases hp : 0 < l0.length
        · obtain ⟨ad, e, _⟩ := hr0.2.2 hp
          cases e
        · exact List.eq_nil_of_length_eq_zero (by omega)
      clear hr0
      subst hz
      go_enter Try.func70, Try.ntmps70
      go_wp2
      go_ret
      exact ⟨_, rfl, Kd.R_nil _ _ _ _ _, Below.refl _ _⟩
    | some ad =>
      clear hr0
      go_enter Try.func70, Try.ntmps70
      go_wp2_with (first | ((with_reducible refine gate_dst (N := 5) rfl ?_); refine Kd.R_lit (Kd.int .i64) _ 3 ?hg (N := 5) ?hd (xs := ([] : List Int)) (inner := []) (ok := fun _ => True) (okp := fun _ => True) ?hr ?hp (fun _ hk => hk) trivial (Below.refl _ _) (Nat.le_refl _) (by simp) ?_; (case hd => rfl); (case hg => rfl); (case hr => first | (go_simp; done) | (go_simp; rfl)); (case hp => exact (Reps.none _ _)); intro v1 w5 ho6 hb6 hg_ hnew_; clear hg_ hnew_; have HO6 := Aside0.mk (Kd.R_lower ho6 (below_size HB.out)); have HB6 := Aside0.mk hb6; clear ho6 hb6) | ((with_reducible refine gate_builtin (b := .append) (xs := #[.tmp 5, .tmp 6]) rfl ?_); at_builtin; refine Kd.R_append_rows (Kd.int .i64) (w0 := w) w.heap.size rfl (.tmp 5) (.tmp 6) 22 3 (.int .i64 0) 8 rfl Try.underlying22 info3 rfl (by decide) (by omega) v1 [] l0 _ _ _ (fun _ => True) (fun _ => False) rfl rfl ?aO ?aR (fun _ _ h => h) (fun _ h => h.elim) ?aF ?aB ?aS ?aL ?_; (case aR => exact (Kd.C_below HR0.out HB6.out)); (case aB => exact HB6.out); (case aF => exact (fun _ _ => trivial)); (case aO => exact HO6.out); (case aS => exact below_size HB6.out); (case aL => have := HL.out; simp; omega); intro v2 w6 ho hb hg hat; have HO7 := Aside0.mk ho; have HB7 := Aside0.mk hb; clear ho hb hg hat))
      go_ret
      exact ⟨_, rfl, by simpa using HO7.out, HB7.out⟩
  · rw [if_neg hl] at h
    cases h

end Go.Proofs.Ytaeaeejfaffbpaa.HFnExactIsNoneDfa
