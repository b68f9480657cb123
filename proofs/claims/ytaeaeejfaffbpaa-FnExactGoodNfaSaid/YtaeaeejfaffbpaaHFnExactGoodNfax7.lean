/- Written by wip/pr.py of this session, for the law FnExactGoodNfa: Lean functions with the answers of the program's, and the proofs of that; where the kit's print has no word, by hand. -/
import Derived.Test.YtaeaeejfaffbpaaHFnExactGoodNfax0
import Derived.Test.YtaeaeejfaffbpaaHFnExactGoodNfax5
import Derived.Test.YtaeaeejfaffbpaaHFnExactGoodNfax6
namespace Go.Proofs.Ytaeaeejfaffbpaa.HFnExactGoodNfa
open Go.RowKit Go.Proofs.YtaeaeejfaffbpaaW.PrintWords Go.Proofs.YtaeaeejfaffbpaaW.PrintLast Go.Proofs.YtaeaeejfaffbpaaW.PrintMore
attribute [local go_sem] max2_int min2_int max_two min_two max_three min_three max_four min_four   -- for this text's walks alone
set_option linter.unusedVariables false
set_option linter.unusedSimpArgs false

/-! ### impl_GoodNfa: function 25 -/
/-- The place of the first for which p holds, or -1. -/
def ixOf {α : Type} (p : α → Bool) : List α → Int
  | [] => -1
  | x :: r => if p x = true then 0 else if ixOf p r < 0 then -1 else ixOf p r + 1
theorem ixOf_any {α : Type} (p : α → Bool) (l : List α) : decide (0 ≤ ixOf p l) = l.any p ∧ -1 ≤ ixOf p l := by
  induction l with
  | nil => exact ⟨rfl, Int.le_refl _⟩
  | cons x r ih =>
    obtain ⟨h1, h2⟩ := ih
    rw [List.any_cons, ← h1]
    cases hp : p x with
    | true => simp [ixOf, hp]
    | false =>
      by_cases h : ixOf p r < 0
      · simp only [ixOf, hp, Bool.false_eq_true, if_false, if_pos h, Bool.false_or]
        exact ⟨by rw [Bool.eq_iff_iff]; simp; omega, by omega⟩
      · simp only [ixOf, hp, Bool.false_eq_true, if_false, if_neg h, Bool.false_or]
        exact ⟨by rw [Bool.eq_iff_iff]; simp; omega, by omega⟩
theorem ixOf_hit {α : Type} (p : α → Bool) : ∀ (l : List α) (k : Nat) (h : k < l.length), (∀ j (hj : j < l.length), j < k → p l[j] = false) → p l[k] = true → ixOf p l = (k : Int)
  | [], k, h, _, _ => absurd h (Nat.not_lt_zero _)
  | x :: r, 0, h, _, hp => by simp at hp; simp [ixOf, hp]
  | x :: r, k + 1, h, hj, hp => by
    have h0 : p x = false := hj 0 (by simp) (by omega)
    have ih := ixOf_hit p r k (by simpa using h) (fun j hj' hlt => hj (j + 1) (by simp; omega) (by omega)) hp
    have : ¬ ((k : Int) < 0) := by omega
    simp [ixOf, h0, ih, this]
theorem ixOf_miss {α : Type} (p : α → Bool) (l : List α) (h : ∀ j (hj : j < l.length), p l[j] = false) : ixOf p l = -1 := by
  have h1 : l.any p = false := by
    rw [List.any_eq_false]
    intro x hx
    obtain ⟨j, hj, rfl⟩ := List.mem_iff_getElem.1 hx
    simp [h j hj]
  have h2 := ixOf_any p l
  rw [h1] at h2
  have := of_decide_eq_false h2.1
  omega

theorem ixInt (p : Int → Bool) (g : Nat) (lb : Array Value) (eg : ∀ args w, (callFunc g args).run Try.prog w = .ok (.enter g args) w) (A : Option Addr) (c : Nat) (zs : List Int) (w : World)
    (hp : ∀ (W : World) (x : Int), Below w.heap.size w W → Calls Try.prog g (#[.int .i64 x] ++ lb) W fun e w' => e = .returned (.bool (p x)) ∧ Below W.heap.size W w')
    (hr : Kd.C (Kd.int .i64) w A zs.length zs) :
    Calls Try.prog 77 #[.slice A zs.length c, .func (.func g) #[] lb] w fun e w' => e = .returned (.int .i64 (ixOf p zs)) ∧ Below w.heap.size w w' := by
  have hbig : zs.length ≤ 9223372036854775807 := hr.2.1
  have HR := Aside0.mk hr
  have HP := Aside0.mk hp
  clear hr hp
  go_enter Try.func77, Try.ntmps77
  go_wp2
  go_loopg [5, 8] zs.length (fun gg _ s8 wr => ∃ kk : Nat, kk ≤ zs.length ∧ zs.length - kk ≤ gg ∧ s8 = .int .i64 kk ∧ Aside0 (Below w.heap.size w wr) ∧ Aside0 (∀ j (hj : j < zs.length), j < kk → p zs[j] = false))
  case atStart => exact ⟨0, Nat.zero_le _, by omega, rfl, ⟨Below.refl _ _⟩, ⟨fun j _ hj => absurd hj (Nat.not_lt_zero _)⟩⟩
  case round =>
    obtain ⟨kk, hkk, hg, rfl, HB, HA⟩ := hrel
    by_cases hlt : kk < zs.length
    · have hltz : (kk : Int) < (zs.length : Int) := by omega
      obtain ⟨ad, e0, hx0⟩ := Kd.at_int HR.out (kk : Int) (by omega) hltz
      subst e0
      have ek : rd zs (kk : Int) = zs[kk] := by unfold rd; simp [List.getD_eq_getElem?_getD, hlt]
      rw [ek] at hx0
      simp only [Int.toNat_natCast] at hx0
      replace hx0 := (HB.out.cell (World.block_lt_of_cell? w _ hx0)).trans hx0
      have EK := Aside0.mk ek
      clear ek
      have hcall := HP.out _ zs[kk] HB.out
      cases hq : p zs[kk] with
      | true =>
        rw [hq] at hcall
        have HQ := Aside0.mk hq
        clear hq
        go_wp2_with (go_at_fn g; refine hcall.mono ?_; rintro e w' ⟨rfl, hb⟩)
        go_ret
        exact ⟨by rw [ixOf_hit p zs kk hlt HA.out HQ.out]; rfl, HB.out.trans (hb.mono HB.out.size)⟩
      | false =>
        rw [hq] at hcall
        have HQ := Aside0.mk hq
        clear hq
        go_wp2_with (go_at_fn g; refine hcall.mono ?_; rintro e w' ⟨rfl, hb⟩)
        go_roundg (zs.length - (kk + 1))
        case measure => omega
        case rel =>
          refine ⟨kk + 1, by omega, by omega, by go_num, ⟨HB.out.trans (hb.mono HB.out.size)⟩, ⟨fun j hj hjk => ?_⟩⟩
          by_cases e : j = kk
          · subst e
            exact HQ.out
          · exact HA.out j hj (by omega)
    · have hltz : ¬ (kk : Int) < (zs.length : Int) := by omega
      have hk2 : kk = zs.length := by omega
      have HK := Aside0.mk hk2
      clear hk2
      go_wp2
      go_ret
      exact ⟨by rw [ixOf_miss p zs (fun j hj => HA.out j hj (by rw [HK.out]; exact hj))]; rfl, HB.out⟩

theorem hasInt (p : Int → Bool) (g : Nat) (lb : Array Value) (eg : ∀ args w, (callFunc g args).run Try.prog w = .ok (.enter g args) w) (A : Option Addr) (c : Nat) (zs : List Int) (w : World)
    (hp : ∀ (W : World) (x : Int), Below w.heap.size w W → Calls Try.prog g (#[.int .i64 x] ++ lb) W fun e w' => e = .returned (.bool (p x)) ∧ Below W.heap.size W w')
    (hr : Kd.C (Kd.int .i64) w A zs.length zs) :
    Calls Try.prog 50 #[.slice A zs.length c, .func (.func g) #[] lb] w fun e w' => e = .returned (.bool (zs.any p)) ∧ Below w.heap.size w w' := by
  have hc := ixInt p g lb eg A c zs w hp hr
  have h2 := (ixOf_any p zs).1
  clear hp hr
  generalize ixOf p zs = i at hc h2
  have H2 := Aside0.mk h2
  clear h2
  go_enter Try.func50, Try.ntmps50
  go_wp2_with (go_at_call 77; refine hc.mono ?_; rintro e w' ⟨rfl, hb⟩)
  go_ret
  exact ⟨by rw [H2.out]; rfl, hb⟩

theorem at_row {w : World} {A : Option Addr} {n : Nat} {xs : List (List Int)} (h : Kd.C (Kd.slice 3 (Kd.int .i64)) w A n xs) (i : Nat) (hi : i < xs.length) (hn : n = xs.length) : ∃ ad A0 c0, A = some ad ∧ w.cell? (ad.add i) = some (.slice A0 (xs[i]).length c0) ∧ (xs[i]).length ≤ c0 ∧ (Kd.int .i64).C w A0 (xs[i]).length (xs[i]) := by
  obtain ⟨ad, c, e, _, hK, hc0⟩ := Kd.C_get h ([] : List Int) (i : Int) (by omega) (by omega)
  rw [Int.toNat_natCast] at hK hc0
  have hc : ∀ j u, c[j]? = some u → w.cell? (ad.add (i * 1 + j)) = some u := hc0
  have ex : xs.getD i ([] : List Int) = xs[i] := by simp [List.getD_eq_getElem?_getD, hi]
  rw [ex] at hK
  obtain ⟨A0, c0, rfl, l0, g0⟩ := hK
  exact ⟨ad, A0, c0, e, by have hq := hc 0 _ rfl; rwa [Nat.mul_one, Nat.add_zero] at hq, l0, g0⟩
theorem ixRow (p : List Int → Bool) (g : Nat) (lb : Array Value) (eg : ∀ args w, (callFunc g args).run Try.prog w = .ok (.enter g args) w) (A : Option Addr) (c : Nat) (zs : List (List Int)) (w : World)
    (hp : ∀ (W : World) (Aj : Option Addr) (cj : Nat) (x : List Int), x ∈ zs → Below w.heap.size w W → Kd.C (Kd.int .i64) W Aj x.length x → x.length ≤ cj → Calls Try.prog g (#[.slice Aj x.length cj] ++ lb) W fun e w' => e = .returned (.bool (p x)) ∧ Below W.heap.size W w')
    (hr : Kd.C (Kd.slice 3 (Kd.int .i64)) w A zs.length zs) :
    Calls Try.prog 76 #[.slice A zs.length c, .func (.func g) #[] lb] w fun e w' => e = .returned (.int .i64 (ixOf p zs)) ∧ Below w.heap.size w w' := by
  have hbig : zs.length ≤ 9223372036854775807 := hr.2.1
  have HR := Aside0.mk hr
  have HP := Aside0.mk hp
  clear hr hp
  go_enter Try.func76, Try.ntmps76
  go_wp2
  go_loopg [5, 8] zs.length (fun gg _ s8 wr => ∃ kk : Nat, kk ≤ zs.length ∧ zs.length - kk ≤ gg ∧ s8 = .int .i64 kk ∧ Aside0 (Below w.heap.size w wr) ∧ Aside0 (∀ j (hj : j < zs.length), j < kk → p zs[j] = false))
  case atStart => exact ⟨0, Nat.zero_le _, by omega, rfl, ⟨Below.refl _ _⟩, ⟨fun j _ hj => absurd hj (Nat.not_lt_zero _)⟩⟩
  case round =>
    obtain ⟨kk, hkk, hg, rfl, HB, HA⟩ := hrel
    by_cases hlt : kk < zs.length
    · have hltz : (kk : Int) < (zs.length : Int) := by omega
      obtain ⟨ad, Aj, cj, e0, hx0, hcj, hrow⟩ := at_row HR.out kk hlt rfl
      subst e0
      replace hx0 := (HB.out.cell (World.block_lt_of_cell? w _ hx0)).trans hx0
      have hcall := HP.out _ Aj cj zs[kk] (List.getElem_mem _) HB.out (Kd.C_below hrow HB.out) hcj
      have HC := Aside0.mk hcj
      clear hcj hrow
      cases hq : p zs[kk] with
      | true =>
        rw [hq] at hcall
        have HQ := Aside0.mk hq
        clear hq
        go_wp2_with (go_at_fn g; refine hcall.mono ?_; rintro e w' ⟨rfl, hb⟩)
        go_ret
        exact ⟨by rw [ixOf_hit p zs kk hlt HA.out HQ.out]; rfl, HB.out.trans (hb.mono HB.out.size)⟩
      | false =>
        rw [hq] at hcall
        have HQ := Aside0.mk hq
        clear hq
        go_wp2_with (go_at_fn g; refine hcall.mono ?_; rintro e w' ⟨rfl, hb⟩)
        go_roundg (zs.length - (kk + 1))
        case measure => omega
        case rel =>
          refine ⟨kk + 1, by omega, by omega, by go_num, ⟨HB.out.trans (hb.mono HB.out.size)⟩, ⟨fun j hj hjk => ?_⟩⟩
          by_cases e : j = kk
          · subst e
            exact HQ.out
          · exact HA.out j hj (by omega)
    · have hltz : ¬ (kk : Int) < (zs.length : Int) := by omega
      have hk2 : kk = zs.length := by omega
      have HK := Aside0.mk hk2
      clear hk2
      go_wp2
      go_ret
      exact ⟨by rw [ixOf_miss p zs (fun j hj => HA.out j hj (by rw [HK.out]; exact hj))]; rfl, HB.out⟩

theorem hasRow (p : List Int → Bool) (g : Nat) (lb : Array Value) (eg : ∀ args w, (callFunc g args).run Try.prog w = .ok (.enter g args) w) (A : Option Addr) (c : Nat) (zs : List (List Int)) (w : World)
    (hp : ∀ (W : World) (Aj : Option Addr) (cj : Nat) (x : List Int), x ∈ zs → Below w.heap.size w W → Kd.C (Kd.int .i64) W Aj x.length x → x.length ≤ cj → Calls Try.prog g (#[.slice Aj x.length cj] ++ lb) W fun e w' => e = .returned (.bool (p x)) ∧ Below W.heap.size W w')
    (hr : Kd.C (Kd.slice 3 (Kd.int .i64)) w A zs.length zs) :
    Calls Try.prog 48 #[.slice A zs.length c, .func (.func g) #[] lb] w fun e w' => e = .returned (.bool (zs.any p)) ∧ Below w.heap.size w w' := by
  have hc := ixRow p g lb eg A c zs w hp hr
  have h2 := (ixOf_any p zs).1
  clear hp hr
  generalize ixOf p zs = i at hc h2
  have H2 := Aside0.mk h2
  clear h2
  go_enter Try.func48, Try.ntmps48
  go_wp2_with (go_at_call 76; refine hc.mono ?_; rintro e w' ⟨rfl, hb⟩)
  go_ret
  exact ⟨by rw [H2.out]; rfl, hb⟩
/-- Is there one? Each is asked. -/
def anyO {α : Type} (f : α → Option Bool) (l : List α) : Option Bool := if l.all (fun x => (f x).isSome) = true then some (l.any fun x => (f x).getD false) else none
theorem anyO_some {α : Type} {f : α → Option Bool} {l : List α} {b : Bool} (h : anyO f l = some b) : (∀ x ∈ l, ∃ v, f x = some v) ∧ b = l.any fun x => (f x).getD false := by
  unfold anyO at h
  by_cases c : l.all (fun x => (f x).isSome) = true
  · rw [if_pos c] at h
    refine ⟨fun x hx => ?_, (Option.some.inj h).symm⟩
    have := List.all_eq_true.1 c x hx
    exact Option.isSome_iff_exists.1 this
  · rw [if_neg c] at h
    cases h
theorem anyO_mono {α : Type} {f g : α → Option Bool} (l : List α) (h : ∀ x, LeO (f x) (g x)) : LeO (anyO f l) (anyO g l) := by
  intro b hb
  obtain ⟨h1, h2⟩ := anyO_some hb
  have h3 : ∀ x ∈ l, g x = f x := fun x hx => by
    obtain ⟨v, hv⟩ := h1 x hx
    rw [hv]
    exact h x v hv
  unfold anyO
  have c : l.all (fun x => (g x).isSome) = true := List.all_eq_true.2 fun x hx => by
    obtain ⟨v, hv⟩ := h1 x hx
    rw [h3 x hx, hv]
    rfl
  rw [if_pos c, h2]
  congr 1
  rw [Bool.eq_iff_iff, List.any_eq_true, List.any_eq_true]
  exact ⟨fun ⟨x, hx, e⟩ => ⟨x, hx, by rw [← h3 x hx]; exact e⟩, fun ⟨x, hx, e⟩ => ⟨x, hx, by rw [h3 x hx]; exact e⟩⟩
def notO (o : Option Bool) : Option Bool := o.bind fun b => some (!b)
theorem notO_mono {a b : Option Bool} (h : LeO a b) : LeO (notO a) (notO b) := LeO.bind h (fun _ => LeO.refl _)
def impl_GoodNfa.f (k : Nat) (a0_0 : Bool) (l0_1 : List (List Int)) (l0_2 : List Int) (l0_3 : List Int) (l0_4 : List (List Int)) : Option (Bool) :=
  if (l0_1.length : Int) > 40 then some false else (if l0_4.length = l0_1.length then ((impl_isRising.f k l0_2 0 ((l0_1.length : Int) - 1)).bind fun t => if t = true then ((impl_isRising.f k l0_3 0 ((l0_1.length : Int) - 1)).bind fun t2 => if t2 = true then ((anyO (fun s => notO (impl_GoodSet.f k s)) l0_1).bind fun t3 => if t3 = true then some false else ((anyO (fun s => notO (impl_isRising.f k s 0 ((l0_1.length : Int) - 1))) l0_4).bind fun t4 => some (!t4))) else some false) else some false) else some false)
theorem impl_GoodNfa.mono : ∀ a0 a1 a2 a3 a4 k, LeO (impl_GoodNfa.f k a0 a1 a2 a3 a4) (impl_GoodNfa.f (k + 1) a0 a1 a2 a3 a4) := by
  intro a0 a1 a2 a3 a4 k
  unfold impl_GoodNfa.f
  repeat' first
      | (with_reducible exact impl_isRising.mono _ _ _ _)
      | (with_reducible exact anyO_mono _ (fun x => notO_mono (impl_isRising.mono _ _ _ _)))
      | (with_reducible exact anyO_mono _ (fun x => notO_mono (impl_GoodSet.mono _ _)))
      | (with_reducible exact LeO.refl _)
      | (with_reducible exact LeO.none _)
      | (with_reducible refine LeO.ite ?_ ?_)
      | (with_reducible refine LeO.bind ?_ (fun _ => ?_))
theorem goodNfa_set (k : Nat) (W : World) (Aj : Option Addr) (cj : Nat) (x : List Int) (v : Bool) (hr : Kd.C (Kd.int .i64) W Aj x.length x) (hc : x.length ≤ cj) (h : notO (impl_GoodSet.f k x) = some v) :
    Calls Try.prog 56 (#[.slice Aj x.length cj] ++ #[]) W fun e w' => e = .returned (.bool v) ∧ Below W.heap.size W w' := by
  obtain ⟨u, hu, e⟩ := Option.bind_eq_some_iff.1 h
  obtain rfl := Option.some.inj e
  have HU := Aside0.mk (fun (W : World) (hr : Kd.C (Kd.int .i64) W Aj x.length x) => impl_GoodSet.calls k Aj cj x u W hr hc hu)
  have HR := Aside0.mk hr
  clear hr h e hu
  show Calls Try.prog 56 #[.slice Aj x.length cj] W _
  go_enter Try.func56, Try.ntmps56
  go_wp2_with (go_at_call 57; refine (HU.out _ HR.out).mono ?_; rintro e w' ⟨rfl, ⟨nd, rfl⟩⟩)
  go_ret
  exact ⟨rfl, by repeat (first | (with_reducible first | exact Below.refl _ _ | apply pw_below_drewN | apply below_drew1 | apply below_alloc))⟩
theorem goodNfa_fol (k : Nat) (W : World) (gs : Nat) (s : Int) (Aj : Option Addr) (cj : Nat) (x : List Int) (v : Bool) (hs : W.cell? ⟨gs, 0, none⟩ = some (.int .i64 s)) (hr : Kd.C (Kd.int .i64) W Aj x.length x) (hc : x.length ≤ cj) (h : notO (impl_isRising.f k x 0 s) = some v) :
    Calls Try.prog 58 (#[.slice Aj x.length cj] ++ #[.pointer (some ⟨gs, 0, none⟩)]) W fun e w' => e = .returned (.bool v) ∧ Below W.heap.size W w' := by
  obtain ⟨u, hu, e⟩ := Option.bind_eq_some_iff.1 h
  obtain rfl := Option.some.inj e
  have HU := Aside0.mk (fun (W : World) (hr : Kd.C (Kd.int .i64) W Aj x.length x) => impl_isRising.calls k Aj cj x 0 s u W hr hc hu)
  have HR := Aside0.mk hr
  clear hr h e hu
  show Calls Try.prog 58 #[.slice Aj x.length cj, .pointer (some ⟨gs, 0, none⟩)] W _
  go_enter Try.func58, Try.ntmps58
  go_wp2_with (go_at_call 46; refine (HU.out _ HR.out).mono ?_; rintro e w' ⟨rfl, ⟨nd, rfl⟩⟩)
  go_ret
  exact ⟨rfl, by repeat (first | (with_reducible first | exact Below.refl _ _ | apply pw_below_drewN | apply below_drew1 | apply below_alloc))⟩
set_option maxHeartbeats 8000000 in
set_option maxRecDepth 100000 in
theorem impl_GoodNfa.calls (k : Nat) (a0_0 : Bool) (A0_1 : Option Addr) (c0_1 : Nat) (l0_1 : List (List Int)) (A0_2 : Option Addr) (c0_2 : Nat) (l0_2 : List Int) (A0_3 : Option Addr) (c0_3 : Nat) (l0_3 : List Int) (A0_4 : Option Addr) (c0_4 : Nat) (l0_4 : List (List Int)) (r : Bool) (w : World) (hr0_1 : Kd.C (Kd.slice 3 (Kd.int .i64)) w A0_1 l0_1.length l0_1) (hc0_1 : l0_1.length ≤ c0_1) (hr0_2 : Kd.C (Kd.int .i64) w A0_2 l0_2.length l0_2) (hc0_2 : l0_2.length ≤ c0_2) (hr0_3 : Kd.C (Kd.int .i64) w A0_3 l0_3.length l0_3) (hc0_3 : l0_3.length ≤ c0_3) (hr0_4 : Kd.C (Kd.slice 3 (Kd.int .i64)) w A0_4 l0_4.length l0_4) (hc0_4 : l0_4.length ≤ c0_4) (h : impl_GoodNfa.f k a0_0 l0_1 l0_2 l0_3 l0_4 = some r) :
    Calls Try.prog 25 #[.agg #[.bool a0_0, .slice A0_1 l0_1.length c0_1, .slice A0_2 l0_2.length c0_2, .slice A0_3 l0_3.length c0_3, .slice A0_4 l0_4.length c0_4]] w fun e w' => e = .returned (.bool r) ∧ Below w.heap.size w w' := by
  have hu := Try.underlying43
  have eg1 : ∀ args w, (callFunc 56 args).run Try.prog w = .ok (.enter 56 args) w := enters_of Try.func56 (by kernel_rfl) rfl
  have eg2 : ∀ args w, (callFunc 58 args).run Try.prog w = .ok (.enter 58 args) w := enters_of Try.func58 (by kernel_rfl) rfl
  unfold impl_GoodNfa.f at h
  have z1 : l0_1.length ≤ 9223372036854775807 := hr0_1.2.1
  have z4 : l0_4.length ≤ 9223372036854775807 := hr0_4.2.1
  obtain ⟨W0, hW0⟩ : ∃ W0, W0 = ((w.alloc (.cells #[.bool a0_0, .slice A0_1 l0_1.length c0_1, .slice A0_2 l0_2.length c0_2, .slice A0_3 l0_3.length c0_3, .slice A0_4 l0_4.length c0_4] 43)).alloc (.cells #[.int .i64 ((l0_1.length : Int) - 1)] 3)) := ⟨_, rfl⟩
  have hb0 : Below w.heap.size w W0 := by rw [hW0]; exact below_alloc (below_alloc (Below.refl _ _) _) _
  have hcell : ∀ W, Below W0.heap.size W0 W → W.cell? ⟨w.heap.size + 1, 0, none⟩ = some (.int .i64 ((l0_1.length : Int) - 1)) := by
    intro W hb
    have g2 : W0.cell? ⟨w.heap.size + 1, 0, none⟩ = some (.int .i64 ((l0_1.length : Int) - 1)) := by rw [hW0]; go_simp
    exact (hb.cell (World.block_lt_of_cell? W0 _ g2)).trans g2
  have hcell2 : ∀ W, Below W0.heap.size W0 W → W.cell? ⟨w.heap.size, 4, none⟩ = some (.slice A0_4 l0_4.length c0_4) := by
    intro W hb
    have g2 : W0.cell? ⟨w.heap.size, 4, none⟩ = some (.slice A0_4 l0_4.length c0_4) := by rw [hW0]; go_simp
    exact (hb.cell (World.block_lt_of_cell? W0 _ g2)).trans g2
  have HB0 := Aside0.mk hb0
  have HCell := Aside0.mk hcell
  have HCell2 := Aside0.mk hcell2
  have HR1 := Aside0.mk hr0_1
  have HR2 := Aside0.mk hr0_2
  have HR3 := Aside0.mk hr0_3
  have HR4 := Aside0.mk hr0_4
  clear hr0_1 hr0_2 hr0_3 hr0_4 hb0 hcell hcell2
  have hI2 := fun (t : Bool) (ht : impl_isRising.f k l0_2 0 ((l0_1.length : Int) - 1) = some t) (W : World) (hb : Below W0.heap.size W0 W) => impl_isRising.calls k A0_2 c0_2 l0_2 0 ((l0_1.length : Int) - 1) t W (Kd.C_below HR2.out (HB0.out.trans (hb.mono HB0.out.size))) hc0_2 ht
  have hI3 := fun (t : Bool) (ht : impl_isRising.f k l0_3 0 ((l0_1.length : Int) - 1) = some t) (W : World) (hb : Below W0.heap.size W0 W) => impl_isRising.calls k A0_3 c0_3 l0_3 0 ((l0_1.length : Int) - 1) t W (Kd.C_below HR3.out (HB0.out.trans (hb.mono HB0.out.size))) hc0_3 ht
  have HI2 := Aside0.mk hI2
  have HI3 := Aside0.mk hI3
  have HBel := Aside0.mk (fun (n : Nat) => (pw_below_drewN (Below.refl W0.heap.size W0) n : Below W0.heap.size W0 (W0.drewN n)))
  clear hI2 hI3
  subst hW0
  by_cases c1 : (l0_1.length : Int) > 40
  · have c1b : decide ((l0_1.length : Int) > 40) = true := decide_eq_true c1
    rw [if_pos c1] at h
    obtain rfl := Option.some.inj h
    clear h c1
    go_enter Try.func25, Try.ntmps25
    go_wp2
    go_ret
    exact ⟨rfl, HB0.out⟩
  · have c1b : decide ((l0_1.length : Int) > 40) = false := decide_eq_false c1
    rw [if_neg c1] at h
    clear c1
    by_cases c2 : l0_4.length = l0_1.length
    · rw [if_pos c2] at h
      have c2a : ((l0_4.length : Int) != (l0_1.length : Int)) = false := by rw [c2]; simp
      have c2b : (l0_4.length != l0_1.length) = false := by rw [c2]; simp
      clear c2
      obtain ⟨t, ht, h⟩ := Option.bind_eq_some_iff.mp h
      have HT := Aside0.mk ht
      clear ht
      cases t with
      | false =>
        rw [if_neg (by simp)] at h
        obtain rfl := Option.some.inj h
        clear h
        go_enter Try.func25, Try.ntmps25
        go_wp2_with (go_at_call 46; with_reducible refine (HI2.out false HT.out _ ?side).mono ?_; (case side => exact (by repeat (first | (with_reducible first | exact Below.refl _ _ | apply pw_below_drewN | apply below_drew1)))); rintro e w' ⟨rfl, ⟨nd, rfl⟩⟩)
        go_ret
        exact ⟨rfl, pw_below_drewN HB0.out _⟩
      | true =>
        rw [if_pos rfl] at h
        obtain ⟨t2, ht2, h⟩ := Option.bind_eq_some_iff.mp h
        have HT2 := Aside0.mk ht2
        clear ht2
        cases t2 with
        | false =>
          rw [if_neg (by simp)] at h
          obtain rfl := Option.some.inj h
          clear h
          go_enter Try.func25, Try.ntmps25
          go_wp2_with (first | (go_at_call 46; with_reducible refine (HI2.out true HT.out _ ?side).mono ?_; (case side => exact (by repeat (first | (with_reducible first | exact Below.refl _ _ | apply pw_below_drewN | apply below_drew1)))); rintro e w' ⟨rfl, ⟨nd, rfl⟩⟩) | (go_at_call 46; with_reducible refine (HI3.out false HT2.out _ ?side).mono ?_; (case side => exact (by repeat (first | (with_reducible first | exact Below.refl _ _ | apply pw_below_drewN | apply below_drew1)))); rintro e w' ⟨rfl, ⟨nd2, rfl⟩⟩))
          go_ret
          exact ⟨rfl, by repeat (first | (with_reducible first | exact HB0.out | apply pw_below_drewN | apply below_drew1))⟩
        | true =>
          rw [if_pos rfl] at h
          obtain ⟨t3, ht3, h⟩ := Option.bind_eq_some_iff.mp h
          obtain ⟨o1, o2⟩ := anyO_some ht3
          have HG1 := Aside0.mk (fun (W : World) (hb : Below _ _ W) => hasRow (fun x => (notO (impl_GoodSet.f k x)).getD false) 56 #[] eg1 A0_1 c0_1 l0_1 W (fun W' Aj cj x hx hb' hr hc => by
            obtain ⟨v, hv⟩ := o1 x hx
            rw [hv]
            exact goodNfa_set k W' Aj cj x v hr hc hv) (Kd.C_below HR1.out (HB0.out.trans (hb.mono HB0.out.size))))
          rw [← o2] at HG1
          clear ht3 o1 o2
          cases t3 with
          | true =>
            rw [if_pos rfl] at h
            obtain rfl := Option.some.inj h
            clear h
            go_enter Try.func25, Try.ntmps25
            go_wp2_with (first | (go_at_call 46; with_reducible refine (HI2.out true HT.out _ ?side).mono ?_; (case side => exact (by repeat (first | (with_reducible first | exact Below.refl _ _ | apply pw_below_drewN | apply below_drew1)))); rintro e w' ⟨rfl, ⟨nd, rfl⟩⟩) | (go_at_call 46; with_reducible refine (HI3.out true HT2.out _ ?side).mono ?_; (case side => exact (by repeat (first | (with_reducible first | exact Below.refl _ _ | apply pw_below_drewN | apply below_drew1)))); rintro e w' ⟨rfl, ⟨nd2, rfl⟩⟩) | (go_at_call 48; with_reducible refine (HG1.out _ ?side).mono ?_; (case side => exact (by repeat (first | (with_reducible first | exact Below.refl _ _ | apply pw_below_drewN | apply below_drew1)))); rintro e w' ⟨rfl, hb⟩))
            go_ret
            exact ⟨rfl, HB0.out.trans (((HBel.out _).trans (hb.mono (HBel.out _).size)).mono HB0.out.size)⟩
          | false =>
            rw [if_neg (by simp)] at h
            obtain ⟨t4, ht4, h⟩ := Option.bind_eq_some_iff.mp h
            obtain rfl := Option.some.inj h
            clear h
            obtain ⟨o1, o2⟩ := anyO_some ht4
            have HG2 := Aside0.mk (fun (W : World) (hb : Below _ _ W) => hasRow (fun x => (notO (impl_isRising.f k x 0 ((l0_1.length : Int) - 1))).getD false) 58 #[.pointer (some ⟨w.heap.size + 1, 0, none⟩)] eg2 A0_4 c0_4 l0_4 W (fun W' Aj cj x hx hb' hr hc => by
              obtain ⟨v, hv⟩ := o1 x hx
              rw [hv]
              exact goodNfa_fol k W' (w.heap.size + 1) _ Aj cj x v (HCell.out W' (hb.trans (hb'.mono hb.size))) hr hc hv) (Kd.C_below HR4.out (HB0.out.trans (hb.mono HB0.out.size))))
            rw [← o2] at HG2
            clear ht4 o1 o2
            go_enter Try.func25, Try.ntmps25
            go_wp2_with (first | (go_at_call 46; with_reducible refine (HI2.out true HT.out _ ?side).mono ?_; (case side => exact (by repeat (first | (with_reducible first | exact Below.refl _ _ | apply pw_below_drewN | apply below_drew1)))); rintro e w' ⟨rfl, ⟨nd, rfl⟩⟩) | (go_at_call 46; with_reducible refine (HI3.out true HT2.out _ ?side).mono ?_; (case side => exact (by repeat (first | (with_reducible first | exact Below.refl _ _ | apply pw_below_drewN | apply below_drew1)))); rintro e w' ⟨rfl, ⟨nd2, rfl⟩⟩) | (go_at_call 48; with_reducible refine (HG1.out _ ?side).mono ?_; (case side => exact (by repeat (first | (with_reducible first | exact Below.refl _ _ | apply pw_below_drewN | apply below_drew1)))); rintro e w' ⟨rfl, hb⟩; have hB5 := Aside0.mk ((HBel.out _).trans (hb.mono (HBel.out _).size)); have hx5 := HCell2.out _ hB5.out; clear hb) | (go_at_call 48; with_reducible refine (HG2.out _ hB5.out).mono ?_; rintro e w' ⟨rfl, hb⟩))
            go_ret
            exact ⟨rfl, HB0.out.trans ((hB5.out.trans (hb.mono hB5.out.size)).mono HB0.out.size)⟩
    · rw [if_neg c2] at h
      obtain rfl := Option.some.inj h
      clear h
      have c2a : ((l0_4.length : Int) != (l0_1.length : Int)) = true := by simpa using fun e : (l0_4.length : Int) = (l0_1.length : Int) => c2 (by omega)
      have c2b : (l0_4.length != l0_1.length) = true := by simpa using c2
      clear c2
      go_enter Try.func25, Try.ntmps25
      go_wp2
      go_ret
      exact ⟨rfl, HB0.out⟩

end Go.Proofs.Ytaeaeejfaffbpaa.HFnExactGoodNfa
