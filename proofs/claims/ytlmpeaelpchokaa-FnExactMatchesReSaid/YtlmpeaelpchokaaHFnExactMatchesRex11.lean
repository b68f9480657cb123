/- Written by wip/pr.py of this session, for the law FnExactMatchesRe: Lean functions with the answers of the program's, and the proofs of that; where the kit's print has no word, by hand. -/
import Derived.Test.YtlmpeaelpchokaaHFnExactMatchesRex0
import Derived.Test.YtlmpeaelpchokaaHFnExactMatchesRex9
import Derived.Test.YtlmpeaelpchokaaHFnExactMatchesRex10
namespace Go.Proofs.Ytlmpeaelpchokaa.HFnExactMatchesRe
open Go.RowKit Go.Proofs.YtlmpeaelpchokaaW.PrintWords Go.Proofs.YtlmpeaelpchokaaW.PrintLast Go.Proofs.YtlmpeaelpchokaaW.PrintMore
attribute [local go_sem] max2_int min2_int max_two min_two max_three min_three max_four min_four   -- for this text's walks alone
set_option linter.unusedVariables false
set_option linter.unusedSimpArgs false

/-! ### impl_GoodRe: function 16 -/
/-- The place of the first for which p holds, or -1. -/
def ixOf {α : Type} (p : α → Bool) : List α → Int
  | [] => -1
  | x :: r => if p x = true then 0 else if ixOf p r < 0 then -1 else ixOf p r + 1
theorem ixOf_any {α : Type} (p : α → Bool) (l : List α) : decide (0 ≤ ixOf p l) = l.any p ∧ -1 ≤ ixOf p l := by
  induction l with
  | nil => exact ⟨rfl, Int.le_refl _⟩
  | cons x r ih =>
    obtain ⟨h1, h2⟩ := ih
    rw [List.any_cons, ← h1]
    cases hp : p x with
    | true => simp [ixOf, hp]
    | false =>
      by_cases h : ixOf p r < 0
      · simp only [ixOf, hp, Bool.false_eq_true, if_false, if_pos h, Bool.false_or]
        exact ⟨by rw [Bool.eq_iff_iff]; simp; omega, by omega⟩
      · simp only [ixOf, hp, Bool.false_eq_true, if_false, if_neg h, Bool.false_or]
        exact ⟨by rw [Bool.eq_iff_iff]; simp; omega, by omega⟩
theorem ixOf_hit {α : Type} (p : α → Bool) : ∀ (l : List α) (k : Nat) (h : k < l.length), (∀ j (hj : j < l.length), j < k → p l[j] = false) → p l[k] = true → ixOf p l = (k : Int)
  | [], k, h, _, _ => absurd h (Nat.not_lt_zero _)
  | x :: r, 0, h, _, hp => by simp at hp; simp [ixOf, hp]
  | x :: r, k + 1, h, hj, hp => by
    have h0 : p x = false := hj 0 (by simp) (by omega)
    have ih := ixOf_hit p r k (by simpa using h) (fun j hj' hlt => hj (j + 1) (by simp; omega) (by omega)) hp
    have : ¬ ((k : Int) < 0) := by omega
    simp [ixOf, h0, ih, this]
theorem ixOf_miss {α : Type} (p : α → Bool) (l : List α) (h : ∀ j (hj : j < l.length), p l[j] = false) : ixOf p l = -1 := by
  have h1 : l.any p = false := by
    rw [List.any_eq_false]
    intro x hx
    obtain ⟨j, hj, rfl⟩ := List.mem_iff_getElem.1 hx
    simp [h j hj]
  have h2 := ixOf_any p l
  rw [h1] at h2
  have := of_decide_eq_false h2.1
  omega

theorem ixInt (p : Int → Bool) (g : Nat) (lb : Array Value) (eg : ∀ args w, (callFunc g args).run Try.prog w = .ok (.enter g args) w) (A : Option Addr) (c : Nat) (zs : List Int) (w : World)
    (hp : ∀ (W : World) (x : Int), Below w.heap.size w W → Calls Try.prog g (#[.int .i64 x] ++ lb) W fun e w' => e = .returned (.bool (p x)) ∧ Below W.heap.size W w')
    (hr : Kd.C (Kd.int .i64) w A zs.length zs) :
    Calls Try.prog 83 #[.slice A zs.length c, .func (.func g) #[] lb] w fun e w' => e = .returned (.int .i64 (ixOf p zs)) ∧ Below w.heap.size w w' := by
  have hbig : zs.length ≤ 9223372036854775807 := hr.2.1
  have HR := Aside0.mk hr
  have HP := Aside0.mk hp
  clear hr hp
  go_enter Try.func83, Try.ntmps83
  go_wp2
  go_loopg [5, 8] zs.length (fun gg _ s8 wr => ∃ kk : Nat, kk ≤ zs.length ∧ zs.length - kk ≤ gg ∧ s8 = .int .i64 kk ∧ Aside0 (Below w.heap.size w wr) ∧ Aside0 (∀ j (hj : j < zs.length), j < kk → p zs[j] = false))
  case atStart => exact ⟨0, Nat.zero_le _, by omega, rfl, ⟨Below.refl _ _⟩, ⟨fun j _ hj => absurd hj (Nat.not_lt_zero _)⟩⟩
  case round =>
    obtain ⟨kk, hkk, hg, rfl, HB, HA⟩ := hrel
    by_cases hlt : kk < zs.length
    · have hltz : (kk : Int) < (zs.length : Int) := by omega
      obtain ⟨ad, e0, hx0⟩ := Kd.at_int HR.out (kk : Int) (by omega) hltz
      subst e0
      have ek : rd zs (kk : Int) = zs[kk] := by unfold rd; simp [List.getD_eq_getElem?_getD, hlt]
      rw [ek] at hx0
      simp only [Int.toNat_natCast] at hx0
      replace hx0 := (HB.out.cell (World.block_lt_of_cell? w _ hx0)).trans hx0
      have EK := Aside0.mk ek
      clear ek
      have hcall := HP.out _ zs[kk] HB.out
      cases hq : p zs[kk] with
      | true =>
        rw [hq] at hcall
        have HQ := Aside0.mk hq
        clear hq
        go_wp2_with (go_at_fn g; refine hcall.mono ?_; rintro e w' ⟨rfl, hb⟩)
        go_ret
        exact ⟨by rw [ixOf_hit p zs kk hlt HA.out HQ.out]; rfl, HB.out.trans (hb.mono HB.out.size)⟩
      | false =>
        rw [hq] at hcall
        have HQ := Aside0.mk hq
        clear hq
        go_wp2_with (go_at_fn g; refine hcall.mono ?_; rintro e w' ⟨rfl, hb⟩)
        go_roundg (zs.length - (kk + 1))
        case measure => omega
        case rel =>
          refine ⟨kk + 1, by omega, by omega, by go_num, ⟨HB.out.trans (hb.mono HB.out.size)⟩, ⟨fun j hj hjk => ?_⟩⟩
          by_cases e : j = kk
          · subst e
            exact HQ.out
          · exact HA.out j hj (by omega)
    · have hltz : ¬ (kk : Int) < (zs.length : Int) := by omega
      have hk2 : kk = zs.length := by omega
      have HK := Aside0.mk hk2
      clear hk2
      go_wp2
      go_ret
      exact ⟨by rw [ixOf_miss p zs (fun j hj => HA.out j hj (by rw [HK.out]; exact hj))]; rfl, HB.out⟩

theorem hasInt (p : Int → Bool) (g : Nat) (lb : Array Value) (eg : ∀ args w, (callFunc g args).run Try.prog w = .ok (.enter g args) w) (A : Option Addr) (c : Nat) (zs : List Int) (w : World)
    (hp : ∀ (W : World) (x : Int), Below w.heap.size w W → Calls Try.prog g (#[.int .i64 x] ++ lb) W fun e w' => e = .returned (.bool (p x)) ∧ Below W.heap.size W w')
    (hr : Kd.C (Kd.int .i64) w A zs.length zs) :
    Calls Try.prog 48 #[.slice A zs.length c, .func (.func g) #[] lb] w fun e w' => e = .returned (.bool (zs.any p)) ∧ Below w.heap.size w w' := by
  have hc := ixInt p g lb eg A c zs w hp hr
  have h2 := (ixOf_any p zs).1
  clear hp hr
  generalize ixOf p zs = i at hc h2
  have H2 := Aside0.mk h2
  clear h2
  go_enter Try.func48, Try.ntmps48
  go_wp2_with (go_at_call 83; refine hc.mono ?_; rintro e w' ⟨rfl, hb⟩)
  go_ret
  exact ⟨by rw [H2.out]; rfl, hb⟩

theorem ixRe (p : S49 → Bool) (g : Nat) (lb : Array Value) (eg : ∀ args w, (callFunc g args).run Try.prog w = .ok (.enter g args) w) (A : Option Addr) (c : Nat) (zs : List S49) (w : World)
    (hp : ∀ (W : World) (Aj : Option Addr) (cj : Nat) (x : S49), x ∈ zs → Below w.heap.size w W → Kd.C (Kd.int .i64) W Aj x.f1.length x.f1 → x.f1.length ≤ cj → Calls Try.prog g (#[.agg #[.int .i64 x.f0, .slice Aj x.f1.length cj]] ++ lb) W fun e w' => e = .returned (.bool (p x)) ∧ Below W.heap.size W w')
    (hr : Kd.C k49 w A zs.length zs) :
    Calls Try.prog 82 #[.slice A zs.length c, .func (.func g) #[] lb] w fun e w' => e = .returned (.int .i64 (ixOf p zs)) ∧ Below w.heap.size w w' := by
  have hu49 := Try.underlying49
  have hbig : zs.length ≤ 9223372036854775807 := hr.2.1
  have HR := Aside0.mk hr
  have HP := Aside0.mk hp
  clear hr hp
  go_enter Try.func82, Try.ntmps82
  go_wp2
  go_loopg [5, 8] zs.length (fun gg _ s8 wr => ∃ kk : Nat, kk ≤ zs.length ∧ zs.length - kk ≤ gg ∧ s8 = .int .i64 kk ∧ Aside0 (Below w.heap.size w wr) ∧ Aside0 (∀ j (hj : j < zs.length), j < kk → p zs[j] = false))
  case atStart => exact ⟨0, Nat.zero_le _, by omega, rfl, ⟨Below.refl _ _⟩, ⟨fun j _ hj => absurd hj (Nat.not_lt_zero _)⟩⟩
  case round =>
    obtain ⟨kk, hkk, hg, rfl, HB, HA⟩ := hrel
    by_cases hlt : kk < zs.length
    · have hltz : (kk : Int) < (zs.length : Int) := by omega
      obtain ⟨ad, Aj, cj, e0, hx0, hx1, hcj, hrow⟩ := at_T49 HR.out (kk : Int) (by omega) hltz
      subst e0
      have ek : rd_T49 zs (kk : Int) = zs[kk] := by unfold rd_T49; simp [List.getD_eq_getElem?_getD, hlt]
      rw [ek] at hx0 hx1 hcj hrow
      simp only [Int.toNat_natCast] at hx0 hx1
      replace hx0 := (HB.out.cell (World.block_lt_of_cell? w _ hx0)).trans hx0
      replace hx1 := (HB.out.cell (World.block_lt_of_cell? w _ hx1)).trans hx1
      have EK := Aside0.mk ek
      clear ek
      have hcall := HP.out _ Aj cj zs[kk] (List.getElem_mem _) HB.out (Kd.C_below hrow HB.out) hcj
      clear hrow hcj
      cases hq : p zs[kk] with
      | true =>
        rw [hq] at hcall
        have HQ := Aside0.mk hq
        clear hq
        go_wp2_with (go_at_fn g; refine hcall.mono ?_; rintro e w' ⟨rfl, hb⟩)
        go_ret
        exact ⟨by rw [ixOf_hit p zs kk hlt HA.out HQ.out]; rfl, HB.out.trans (hb.mono HB.out.size)⟩
      | false =>
        rw [hq] at hcall
        have HQ := Aside0.mk hq
        clear hq
        go_wp2_with (go_at_fn g; refine hcall.mono ?_; rintro e w' ⟨rfl, hb⟩)
        go_roundg (zs.length - (kk + 1))
        case measure => omega
        case rel =>
          refine ⟨kk + 1, by omega, by omega, by go_num, ⟨HB.out.trans (hb.mono HB.out.size)⟩, ⟨fun j hj hjk => ?_⟩⟩
          by_cases e : j = kk
          · subst e
            exact HQ.out
          · exact HA.out j hj (by omega)
    · have hltz : ¬ (kk : Int) < (zs.length : Int) := by omega
      have hk2 : kk = zs.length := by omega
      have HK := Aside0.mk hk2
      clear hk2
      go_wp2
      go_ret
      exact ⟨by rw [ixOf_miss p zs (fun j hj => HA.out j hj (by rw [HK.out]; exact hj))]; rfl, HB.out⟩

theorem hasRe (p : S49 → Bool) (g : Nat) (lb : Array Value) (eg : ∀ args w, (callFunc g args).run Try.prog w = .ok (.enter g args) w) (A : Option Addr) (c : Nat) (zs : List S49) (w : World)
    (hp : ∀ (W : World) (Aj : Option Addr) (cj : Nat) (x : S49), x ∈ zs → Below w.heap.size w W → Kd.C (Kd.int .i64) W Aj x.f1.length x.f1 → x.f1.length ≤ cj → Calls Try.prog g (#[.agg #[.int .i64 x.f0, .slice Aj x.f1.length cj]] ++ lb) W fun e w' => e = .returned (.bool (p x)) ∧ Below W.heap.size W w')
    (hr : Kd.C k49 w A zs.length zs) :
    Calls Try.prog 45 #[.slice A zs.length c, .func (.func g) #[] lb] w fun e w' => e = .returned (.bool (zs.any p)) ∧ Below w.heap.size w w' := by
  have hc := ixRe p g lb eg A c zs w hp hr
  have h2 := (ixOf_any p zs).1
  clear hp hr
  generalize ixOf p zs = i at hc h2
  have H2 := Aside0.mk h2
  clear h2
  go_enter Try.func45, Try.ntmps45
  go_wp2_with (go_at_call 82; refine hc.mono ?_; rintro e w' ⟨rfl, hb⟩)
  go_ret
  exact ⟨by rw [H2.out]; rfl, hb⟩

/-- Is there one? Each is asked. -/
def anyO {α : Type} (f : α → Option Bool) (l : List α) : Option Bool := if l.all (fun x => (f x).isSome) = true then some (l.any fun x => (f x).getD false) else none
theorem anyO_some {α : Type} {f : α → Option Bool} {l : List α} {b : Bool} (h : anyO f l = some b) : (∀ x ∈ l, ∃ v, f x = some v) ∧ b = l.any fun x => (f x).getD false := by
  unfold anyO at h
  by_cases c : l.all (fun x => (f x).isSome) = true
  · rw [if_pos c] at h
    refine ⟨fun x hx => ?_, (Option.some.inj h).symm⟩
    have := List.all_eq_true.1 c x hx
    exact Option.isSome_iff_exists.1 this
  · rw [if_neg c] at h
    cases h
theorem anyO_mono {α : Type} {f g : α → Option Bool} (l : List α) (h : ∀ x, LeO (f x) (g x)) : LeO (anyO f l) (anyO g l) := by
  intro b hb
  obtain ⟨h1, h2⟩ := anyO_some hb
  have h3 : ∀ x ∈ l, g x = f x := fun x hx => by
    obtain ⟨v, hv⟩ := h1 x hx
    rw [hv]
    exact h x v hv
  unfold anyO
  have c : l.all (fun x => (g x).isSome) = true := List.all_eq_true.2 fun x hx => by
    obtain ⟨v, hv⟩ := h1 x hx
    rw [h3 x hx, hv]
    rfl
  rw [if_pos c, h2]
  congr 1
  rw [Bool.eq_iff_iff, List.any_eq_true, List.any_eq_true]
  exact ⟨fun ⟨x, hx, e⟩ => ⟨x, hx, by rw [← h3 x hx]; exact e⟩, fun ⟨x, hx, e⟩ => ⟨x, hx, by rw [h3 x hx]; exact e⟩⟩
def notO (o : Option Bool) : Option Bool := o.bind fun b => some (!b)
theorem notO_mono {a b : Option Bool} (h : LeO a b) : LeO (notO a) (notO b) := LeO.bind h (fun _ => LeO.refl _)
def goodRuneV (r : Int) : Bool := decide (0 ≤ r ∧ r ≤ 1114111) && !decide (55296 ≤ r ∧ r ≤ 57343)
theorem goodRuneV_f (r : Int) : impl_GoodRune.f r = some (goodRuneV r) := by
  have e : ∀ a b c : Int, impl_inRange.f a b c = some (decide (b ≤ a ∧ a ≤ c)) := fun a b c => by
    unfold impl_inRange.f
    by_cases h : b ≤ a
    · rw [if_pos h]; simp [h]
    · rw [if_neg h]; simp [h]
  unfold impl_GoodRune.f goodRuneV
  rw [e, e]
  simp only [Option.bind_some]
  cases h : decide (0 ≤ r ∧ r ≤ 1114111) <;> simp
def badRuneV (r : Int) : Bool := !goodRuneV r
theorem goodRe_rune (W : World) (x : Int) :
    Calls Try.prog 49 (#[.int .i64 x] ++ #[]) W fun e w' => e = .returned (.bool (badRuneV x)) ∧ Below W.heap.size W w' := by
  have hv := goodRuneV_f x
  have hb : badRuneV x = !goodRuneV x := rfl
  generalize goodRuneV x = q at hv hb
  have HV := Aside0.mk hv
  have HB := Aside0.mk hb
  clear hv hb
  show Calls Try.prog 49 #[.int .i64 x] W _
  go_enter Try.func49, Try.ntmps49
  go_wp2_with (go_at_call 50; refine (impl_GoodRune.calls x q _ HV.out).mono ?_; rintro e w' ⟨rfl, ⟨nd, rfl⟩⟩)
  go_ret
  exact ⟨by rw [HB.out]; rfl, by repeat (first | (with_reducible first | exact Below.refl _ _ | apply pw_below_drewN | apply below_drew1 | apply below_alloc))⟩
def badReO (k : Nat) (x : S49) : Option Bool := (impl_GoodSet.f k x.f1).bind fun g => some (!g || (x.f1.any badRuneV || (decide (x.f0 ≠ 2) && decide ((x.f1.length : Int) > 0))))
theorem goodRe_node (k : Nat) (W : World) (Aj : Option Addr) (cj : Nat) (x : S49) (v : Bool) (hr : Kd.C (Kd.int .i64) W Aj x.f1.length x.f1) (hc : x.f1.length ≤ cj) (h : badReO k x = some v) :
    Calls Try.prog 46 (#[.agg #[.int .i64 x.f0, .slice Aj x.f1.length cj]] ++ #[]) W fun e w' => e = .returned (.bool v) ∧ Below W.heap.size W w' := by
  have hu49 := Try.underlying49
  have eg : ∀ args w, (callFunc 49 args).run Try.prog w = .ok (.enter 49 args) w := enters_of Try.func49 (by kernel_rfl) rfl
  obtain ⟨op, set⟩ := x
  obtain ⟨g, hg, e⟩ := Option.bind_eq_some_iff.1 h
  replace hr : Kd.C (Kd.int .i64) W Aj set.length set := hr
  replace hc : set.length ≤ cj := hc
  replace hg : impl_GoodSet.f k set = some g := hg
  replace e : (!g || (set.any badRuneV || (decide (op ≠ 2) && decide ((set.length : Int) > 0)))) = v := Option.some.inj e
  have hl : set.length ≤ 9223372036854775807 := hr.2.1
  obtain ⟨W0, hW0⟩ : ∃ W0, W0 = W.alloc (.cells #[.int .i64 op, .slice Aj set.length cj] 49) := ⟨_, rfl⟩
  have hb0 : Below W.heap.size W W0 := by rw [hW0]; exact below_alloc (Below.refl _ _) _
  have hcell : ∀ W1, Below W0.heap.size W0 W1 → W1.cell? ⟨W.heap.size, 0, none⟩ = some (.int .i64 op) ∧ W1.cell? ⟨W.heap.size, 1, none⟩ = some (.slice Aj set.length cj) := by
    intro W1 hb
    have g1 : W0.cell? ⟨W.heap.size, 0, none⟩ = some (.int .i64 op) := by rw [hW0]; go_simp
    have g2 : W0.cell? ⟨W.heap.size, 1, none⟩ = some (.slice Aj set.length cj) := by rw [hW0]; go_simp
    exact ⟨(hb.cell (World.block_lt_of_cell? W0 _ g1)).trans g1, (hb.cell (World.block_lt_of_cell? W0 _ g2)).trans g2⟩
  have HB0 := Aside0.mk hb0
  have HCell := Aside0.mk hcell
  have HU := Aside0.mk (fun (W1 : World) (hb : Below W0.heap.size W0 W1) => impl_GoodSet.calls k Aj cj set g W1 (Kd.C_below hr (hb0.trans (hb.mono hb0.size))) hc hg)
  have HH := Aside0.mk (fun (W1 : World) (hb : Below W0.heap.size W0 W1) => hasInt badRuneV 49 #[] eg Aj cj set W1 (fun W' x _ => goodRe_rune W' x) (Kd.C_below hr (hb0.trans (hb.mono hb0.size))))
  have HBel := Aside0.mk (fun (n : Nat) => (pw_below_drewN (Below.refl W0.heap.size W0) n : Below W0.heap.size W0 (W0.drewN n)))
  clear hr hb0 hcell h hg
  subst hW0
  show Calls Try.prog 46 #[.agg #[.int .i64 op, .slice Aj set.length cj]] W _
  cases g with
  | false =>
    have HE : Aside0 (v = true) := ⟨by rw [← e]; rfl⟩
    clear e
    go_enter Try.func46, Try.ntmps46
    go_wp2_with (go_at_call 47; with_reducible refine (HU.out _ ?side).mono ?_; (case side => exact Below.refl _ _); rintro e w' ⟨rfl, ⟨nd, rfl⟩⟩)
    go_ret
    exact ⟨by rw [HE.out]; rfl, HB0.out.trans ((HBel.out _).mono HB0.out.size)⟩
  | true =>
    cases ha : set.any badRuneV with
    | true =>
      rw [ha] at e HH
      have HE : Aside0 (v = true) := ⟨by rw [← e]; rfl⟩
      clear e ha
      go_enter Try.func46, Try.ntmps46
      go_wp2_with (first | (go_at_call 47; with_reducible refine (HU.out _ ?side).mono ?_; (case side => exact Below.refl _ _); rintro e w' ⟨rfl, ⟨nd, rfl⟩⟩) | (go_at_call 48; with_reducible refine (HH.out _ ?side).mono ?_; (case side => exact HBel.out _); rintro e w' ⟨rfl, hb⟩; have hB5 := Aside0.mk ((HBel.out _).trans (hb.mono (HBel.out _).size)); clear hb))
      go_ret
      exact ⟨by rw [HE.out]; rfl, HB0.out.trans (hB5.out.mono HB0.out.size)⟩
    | false =>
      rw [ha] at e HH
      clear ha
      by_cases c1 : op ≠ 2
      · have c1b : (op != 2) = true := by simpa using c1
        have c1c : decide (op ≠ 2) = true := decide_eq_true c1
        have HE : Aside0 (v = decide ((set.length : Int) > 0)) := ⟨by rw [← e, c1c]; rfl⟩
        clear e c1 c1c
        go_enter Try.func46, Try.ntmps46
        go_wp2_with (first | (go_at_call 47; with_reducible refine (HU.out _ ?side).mono ?_; (case side => exact Below.refl _ _); rintro e w' ⟨rfl, ⟨nd, rfl⟩⟩) | (go_at_call 48; with_reducible refine (HH.out _ ?side).mono ?_; (case side => exact HBel.out _); rintro e w' ⟨rfl, hb⟩; have hB5 := Aside0.mk ((HBel.out _).trans (hb.mono (HBel.out _).size)); have hx0 := (HCell.out _ hB5.out).1; have hx1 := (HCell.out _ hB5.out).2; clear hb))
        go_ret
        exact ⟨by rw [HE.out]; first | rfl | simp, HB0.out.trans (hB5.out.mono HB0.out.size)⟩
      · have c1b : (op != 2) = false := by simpa using c1
        have c1c : decide (op ≠ 2) = false := decide_eq_false c1
        have HE : Aside0 (v = false) := ⟨by rw [← e, c1c]; rfl⟩
        clear e c1 c1c
        go_enter Try.func46, Try.ntmps46
        go_wp2_with (first | (go_at_call 47; with_reducible refine (HU.out _ ?side).mono ?_; (case side => exact Below.refl _ _); rintro e w' ⟨rfl, ⟨nd, rfl⟩⟩) | (go_at_call 48; with_reducible refine (HH.out _ ?side).mono ?_; (case side => exact HBel.out _); rintro e w' ⟨rfl, hb⟩; have hB5 := Aside0.mk ((HBel.out _).trans (hb.mono (HBel.out _).size)); have hx0 := (HCell.out _ hB5.out).1; have hx1 := (HCell.out _ hB5.out).2; clear hb))
        go_ret
        exact ⟨by rw [HE.out]; rfl, HB0.out.trans (hB5.out.mono HB0.out.size)⟩
def impl_GoodRe.f (k : Nat) (l0 : List S49) : Option Bool :=
  (impl_inRange.f (l0.length : Int) 1 40).bind fun t => if t = true then ((anyO (badReO k) l0).bind fun t2 => if t2 = true then some false else ((impl_parts.f k l0).bind fun q => some q.2)) else some false
theorem badReO_mono (k : Nat) (x : S49) : LeO (badReO k x) (badReO (k + 1) x) := LeO.bind (impl_GoodSet.mono _ _) (fun _ => LeO.refl _)
theorem impl_GoodRe.mono : ∀ a0 k, LeO (impl_GoodRe.f k a0) (impl_GoodRe.f (k + 1) a0) := by
  intro a0 k
  unfold impl_GoodRe.f
  repeat' first
      | (with_reducible exact impl_parts.mono _ _)
      | (with_reducible exact anyO_mono _ (fun x => badReO_mono _ x))
      | (with_reducible exact LeO.refl _)
      | (with_reducible exact LeO.none _)
      | (with_reducible refine LeO.ite ?_ ?_)
      | (with_reducible refine LeO.bind ?_ (fun _ => ?_))
set_option maxHeartbeats 8000000 in
set_option maxRecDepth 100000 in
theorem impl_GoodRe.calls (k : Nat) (A0 : Option Addr) (c0 : Nat) (l0 : List S49) (r : Bool) (w : World) (hr0 : Kd.C k49 w A0 l0.length l0) (hc0 : l0.length ≤ c0) (h : impl_GoodRe.f k l0 = some r) :
    Calls Try.prog 16 #[.slice A0 l0.length c0] w fun e w' => e = .returned (.bool r) ∧ Below w.heap.size w w' := by
  have eg : ∀ args w, (callFunc 46 args).run Try.prog w = .ok (.enter 46 args) w := enters_of Try.func46 (by kernel_rfl) rfl
  have z0 : l0.length ≤ 9223372036854775807 := hr0.2.1
  unfold impl_GoodRe.f at h
  obtain ⟨t, ht, h⟩ := Option.bind_eq_some_iff.mp h
  have HI := Aside0.mk ht
  clear ht
  have HBel := Aside0.mk (fun (n : Nat) => (pw_below_drewN (Below.refl w.heap.size w) n : Below w.heap.size w (w.drewN n)))
  cases t with
  | false =>
    rw [if_neg (by simp)] at h
    obtain rfl := Option.some.inj h
    clear h hr0
    go_enter Try.func16, Try.ntmps16
    go_wp2_with (go_at_call 44; refine (impl_inRange.calls _ 1 40 false _ HI.out).mono ?_; rintro e w' ⟨rfl, ⟨nd, rfl⟩⟩)
    go_ret
    exact ⟨rfl, HBel.out _⟩
  | true =>
    rw [if_pos rfl] at h
    obtain ⟨t2, ht2, h⟩ := Option.bind_eq_some_iff.mp h
    obtain ⟨o1, o2⟩ := anyO_some ht2
    have HG := Aside0.mk (fun (W : World) (hb : Below w.heap.size w W) => hasRe (fun x => (badReO k x).getD false) 46 #[] eg A0 c0 l0 W (fun W' Aj cj x hx hb' hr hc => by
      obtain ⟨v, hv⟩ := o1 x hx
      rw [hv]
      exact goodRe_node k W' Aj cj x v hr hc hv) (Kd.C_below hr0 hb))
    rw [← o2] at HG
    clear ht2 o1 o2
    cases t2 with
    | true =>
      rw [if_pos rfl] at h
      obtain rfl := Option.some.inj h
      clear h hr0
      go_enter Try.func16, Try.ntmps16
      go_wp2_with (first | (go_at_call 44; refine (impl_inRange.calls _ 1 40 true _ HI.out).mono ?_; rintro e w' ⟨rfl, ⟨nd, rfl⟩⟩) | (go_at_call 45; with_reducible refine (HG.out _ ?side).mono ?_; (case side => exact HBel.out _); rintro e w' ⟨rfl, hb⟩; have hB5 := Aside0.mk ((HBel.out _).trans (hb.mono (HBel.out _).size)); clear hb))
      go_ret
      exact ⟨rfl, hB5.out⟩
    | false =>
      rw [if_neg (by simp)] at h
      obtain ⟨q, hq, h⟩ := Option.bind_eq_some_iff.mp h
      obtain rfl := Option.some.inj h
      clear h
      obtain ⟨q1, q2⟩ := q
      have HP := Aside0.mk (fun (W : World) (hb : Below w.heap.size w W) => impl_parts.calls k A0 c0 l0 q1 q2 W (Kd.C_below hr0 hb) hc0 hq)
      clear hr0 hq
      go_enter Try.func16, Try.ntmps16
      go_wp2_with (first | (go_at_call 44; refine (impl_inRange.calls _ 1 40 true _ HI.out).mono ?_; rintro e w' ⟨rfl, ⟨nd, rfl⟩⟩) | (go_at_call 45; with_reducible refine (HG.out _ ?side).mono ?_; (case side => exact HBel.out _); rintro e w' ⟨rfl, hb⟩; have hB5 := Aside0.mk ((HBel.out _).trans (hb.mono (HBel.out _).size)); clear hb) | (go_at_call 51; with_reducible refine (HP.out _ hB5.out).mono ?_; rintro e w' ⟨v0_, rfl, ho, hb⟩; have hB6 := Aside0.mk (hB5.out.trans (hb.mono hB5.out.size)); clear hb))
      go_ret
      exact ⟨rfl, hB6.out⟩

/-! ### impl_areRunes: function 56 -/
/-- The closure of areRunes. -/
theorem areRunes_pred (W : World) (x : Int) :
    Calls Try.prog 87 (#[.int .i64 x] ++ #[]) W fun e w' => e = .returned (.bool (badRuneV x)) ∧ Below W.heap.size W w' := by
  have hv := goodRuneV_f x
  have hb : badRuneV x = !goodRuneV x := rfl
  generalize goodRuneV x = q at hv hb
  have HV := Aside0.mk hv
  have HB := Aside0.mk hb
  clear hv hb
  show Calls Try.prog 87 #[.int .i64 x] W _
  go_enter Try.func87, Try.ntmps87
  go_wp2_with (go_at_call 50; refine (impl_GoodRune.calls x q _ HV.out).mono ?_; rintro e w' ⟨rfl, ⟨nd, rfl⟩⟩)
  go_ret
  exact ⟨by rw [HB.out]; rfl, by repeat (first | (with_reducible first | exact Below.refl _ _ | apply pw_below_drewN | apply below_drew1 | apply below_alloc))⟩
def areRunesV (l : List Int) (m : Int) : Bool := if (l.length : Int) ≤ m then !l.any badRuneV else false
def impl_areRunes.f (l0 : List Int) (a1 : Int) : Option (Bool) := some (areRunesV l0 a1)
set_option maxHeartbeats 8000000 in
theorem impl_areRunes.calls (A0 : Option Addr) (c0 : Nat) (l0 : List Int) (a1 : Int) (r : Bool) (w : World) (hr0 : Kd.C (Kd.int .i64) w A0 l0.length l0) (hc0 : l0.length ≤ c0) (h : impl_areRunes.f l0 a1 = some r) :
    Calls Try.prog 56 #[.slice A0 l0.length c0, .int .i64 a1] w fun e w' => e = .returned (.bool r) ∧ Below w.heap.size w w' := by
  obtain rfl := Option.some.inj h
  clear h
  have eg : ∀ args w, (callFunc 87 args).run Try.prog w = .ok (.enter 87 args) w := enters_of Try.func87 (by kernel_rfl) rfl
  have cH := fun (W : World) (hC : Kd.C (Kd.int .i64) W A0 l0.length l0) => hasInt badRuneV 87 #[] eg A0 c0 l0 W (fun W' x _ => areRunes_pred W' x) hC
  have CH := Aside0.mk cH
  have HR := Aside0.mk hr0
  clear cH hr0
  by_cases hm : (l0.length : Int) ≤ a1
  · have hd : decide ((l0.length : Int) ≤ a1) = true := decide_eq_true hm
    have ha : areRunesV l0 a1 = !l0.any badRuneV := if_pos hm
    have HA := Aside0.mk ha
    clear hm ha
    go_enter Try.func56, Try.ntmps56
    go_wp2_with (go_at_call 48; refine (CH.out _ (Kd.C_below HR.out (by repeat (first | (with_reducible first | exact Below.refl _ _ | apply pw_below_drewN | apply below_drew1 | apply below_alloc))))).mono ?_; rintro e w' ⟨rfl, hb⟩)
    go_ret
    exact ⟨by rw [HA.out]; rfl, hb⟩
  · have hd : decide ((l0.length : Int) ≤ a1) = false := decide_eq_false hm
    have ha : areRunesV l0 a1 = false := if_neg hm
    have HA := Aside0.mk ha
    clear hm ha
    go_enter Try.func56, Try.ntmps56
    go_wp2
    go_ret
    exact ⟨by rw [HA.out]; rfl, Below.refl _ _⟩

/-! ### impl_matcher_has: function 64 -/
/-- The matcher at block g: what its fields hold now. -/
def MS (W : World) (g : Nat) (p : List S49) (parts : List (List Int)) (l : List Int) (table : List (List (List Bool))) : Prop :=
  ∃ A0 c0 A1 c1 A2 c2 A3 c3, W.heap[g]? = some (.cells #[.slice A0 p.length c0, .slice A1 parts.length c1, .slice A2 l.length c2, .slice A3 table.length c3] 84 (0, 0)) ∧ Kd.C k49 W A0 p.length p ∧ Kd.C (Kd.slice 3 (Kd.int .i64)) W A1 parts.length parts ∧ Kd.C (Kd.int .i64) W A2 l.length l ∧ Kd.C (Kd.slice 81 (Kd.slice 4 Kd.bool)) W A3 table.length table
theorem MS.below {W W' : World} {g : Nat} {p : List S49} {parts : List (List Int)} {l : List Int} {table : List (List (List Bool))} (h : MS W g p parts l table) (hb : Below W.heap.size W W') : MS W' g p parts l table := by
  obtain ⟨A0, c0, A1, c1, A2, c2, A3, c3, h0, h1, h2, h3, h4⟩ := h
  exact ⟨A0, c0, A1, c1, A2, c2, A3, c3, blk_below h0 hb, Kd.C_below h1 hb, Kd.C_below h2 hb, Kd.C_below h3 hb, Kd.C_below h4 hb⟩
theorem at_sl {α : Type} {d : Kd α} {e : Nat} {w : World} {A : Option Addr} {n : Nat} {xs : List (List α)} (h : Kd.C (Kd.slice e d) w A n xs) (i : Nat) (h1 : i < n) : ∃ ad A0 c0, A = some ad ∧ w.cell? (ad.add i) = some (.slice A0 (xs.getD i []).length c0) ∧ (xs.getD i []).length ≤ c0 ∧ d.C w A0 (xs.getD i []).length (xs.getD i []) := by
  obtain ⟨ad, c, e, _, hK, hc0⟩ := Kd.C_get h ([] : List α) (i : Int) (by omega) (by omega)
  have hc : ∀ j u, c[j]? = some u → w.cell? (ad.add (i * 1 + j)) = some u := hc0
  obtain ⟨A0, c0, rfl, l0, g0⟩ := hK
  exact ⟨ad, A0, c0, e, by have hq := hc 0 _ rfl; rwa [Nat.mul_one, Nat.add_zero] at hq, l0, g0⟩
/-- The table's value. -/
def hv (table : List (List (List Bool))) (a b c : Nat) : Bool := ((table.getD a []).getD b []).getD c false
/-- As far as it goes, the table has these sizes. -/
def Dims (table : List (List (List Bool))) (n : Nat) : Prop := ∀ a, a < table.length → (table.getD a []).length = n + 1 ∧ ∀ b, b ≤ n → ((table.getD a []).getD b []).length = n + 1
set_option maxHeartbeats 8000000 in
set_option maxRecDepth 100000 in
theorem mhas.calls (g : Nat) (p : List S49) (parts : List (List Int)) (l : List Int) (table : List (List (List Bool))) (n a b c : Nat) (w : World) (hM : MS w g p parts l table) (hD : Dims table n) (ha : a < table.length) (hb : b ≤ n) (hc : c ≤ n) :
    Calls Try.prog 64 #[.pointer (some ⟨g, 0, none⟩), .int .i64 (a : Int), .int .i64 (b : Int), .int .i64 (c : Int)] w fun e w' => e = .returned (.bool (hv table a b c)) ∧ w = w' := by
  obtain ⟨A0, c0, A1, c1, A2, c2, A3, c3, HG, H0, H1, H2, H3⟩ := hM
  have hcz3 : w.cell? ⟨g, 3, none⟩ = some (.slice A3 table.length c3) := (blk_cell HG 3).trans rfl
  have hcz0 : w.cell? ⟨g, 0, none⟩ = some (.slice A0 p.length c0) := (blk_cell HG 0).trans rfl
  clear HG H0 H1 H2
  obtain ⟨d1, d2⟩ := hD a ha
  have d3 := d2 b hb
  clear d2
  obtain ⟨ad1, A4, c4, e1, hx1, hl1, hi1⟩ := at_sl H3 a (by omega)
  cases e1
  obtain ⟨ad2, A5, c5, e2, hx2, hl2, hi2⟩ := at_sl hi1 b (by omega)
  cases e2
  obtain ⟨ad3, e3, hx3⟩ := Kd.at_bool hi2 (c : Int) (by omega) (by omega)
  cases e3
  rw [d1] at hx1
  rw [d3] at hx2
  have q1 : decide (a < table.length) = true := decide_eq_true ha
  have q2 : decide (b < n + 1) = true := decide_eq_true (by omega)
  have q3 : decide (c < n + 1) = true := decide_eq_true (by omega)
  have t1 : a < table.length := ha
  have t2 : b < n + 1 := by omega
  have t3 : c < n + 1 := by omega
  clear hi1 hi2 H3 hD d1 d3 ha hb hc hl1 hl2
  rw [show rdOf false ((table.getD a []).getD b []) (c : Int) = hv table a b c from by unfold hv rdOf; rw [Int.toNat_natCast]] at hx3
  rw [Int.toNat_natCast] at hx3
  generalize hv table a b c = r at hx3 ⊢
  go_enter Try.func64, Try.ntmps64
  go_wp2
  go_ret
  exact ⟨rfl, rfl⟩

end Go.Proofs.Ytlmpeaelpchokaa.HFnExactMatchesRe
