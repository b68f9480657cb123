/- Written by wip/pr.py of this session, for the law FnExactDerivRe: Lean functions with the answers of the program's, and the proofs of that; where the kit's print has no word, by hand. -/
import Derived.Test.YtlmpeaelpchokaaHFnExactDerivRex0
import Derived.Test.YtlmpeaelpchokaaHFnExactDerivRex7
import Derived.Test.YtlmpeaelpchokaaHFnExactDerivRex8
namespace Go.Proofs.Ytlmpeaelpchokaa.HFnExactDerivRe
set_option maxHeartbeats 8000000
set_option maxRecDepth 100000
open Go.RowKit Go.Proofs.YtlmpeaelpchokaaW.PrintWords Go.Proofs.YtlmpeaelpchokaaW.PrintLast Go.Proofs.YtlmpeaelpchokaaW.PrintMore

set_option linter.unusedVariables false
set_option linter.unusedSimpArgs false

/-- The place of the first for which p holds, or -1. -/
def ixOf {α : Type} (p : α → Bool) : List α → Int
 | [] => -1
 | x :: r => if p x = true then 0 else if ixOf p r < 0 then -1 else ixOf p r + 1
theorem ixOf_any {α : Type} (p : α → Bool) (l : List α) : decide (0 ≤ ixOf p l) = l.any p ∧ -1 ≤ ixOf p l := by
 induction l with
 | nil => exact ⟨rfl, Int.le_refl _⟩
 | cons x r ih =>
  obtain ⟨h1, h2⟩ := ih
  rw [List.any_cons, ← h1]
  cases hp : p x with
  | true => simp [ixOf, hp]
  | false =>
   by_cases h : ixOf p r < 0
   ·simp only [ixOf, hp, Bool.false_eq_true, if_false, if_pos h, Bool.false_or]
    exact ⟨by rw [Bool.eq_iff_iff]; simp; omega, by omega⟩
   ·simp only [ixOf, hp, Bool.false_eq_true, if_false, if_neg h, Bool.false_or]
    exact ⟨by rw [Bool.eq_iff_iff]; simp; omega, by omega⟩
theorem ixOf_hit {α : Type} (p : α → Bool) : ∀ (l : List α) (k : Nat) (h : k < l.length), (∀ j (hj : j < l.length), j < k → p l[j] = false) → p l[k] = true → ixOf p l = (k : Int)
 | [], k, h, _, _ => absurd h (Nat.not_lt_zero _)
 | x :: r, 0, h, _, hp => by simp at hp; simp [ixOf, hp]
 | x :: r, k + 1, h, hj, hp => by
  have h0 : p x = false := hj 0 (by simp) (by omega)
  have ih := ixOf_hit p r k (by simpa using h) (fun j hj' hlt => hj (j + 1) (by simp; omega) (by omega)) hp
  have : ¬ ((k : Int) < 0) := by omega
  simp [ixOf, h0, ih, this]
theorem ixOf_miss {α : Type} (p : α → Bool) (l : List α) (h : ∀ j (hj : j < l.length), p l[j] = false) : ixOf p l = -1 := by
 have h1 : l.any p = false := by
  rw [List.any_eq_false]
  intro x hx
  obtain ⟨j, hj, rfl⟩ := List.mem_iff_getElem.1 hx
  simp [h j hj]
 have h2 := ixOf_any p l
 rw [h1] at h2
 have := of_decide_eq_false h2.1
 omega

theorem ixInt (p : Int → Bool) (g : Nat) (lb : Array Value) (eg : ∀ args w, (callFunc g args).run Try.prog w = .ok (.enter g args) w) (A : Option Addr) (c : Nat) (zs : List Int) (w : World)
  (hp : ∀ (W : World) (x : Int), Below w.heap.size w W → Calls Try.prog g (#[.int .i64 x] ++ lb) W fun e w' => e = .returned (.bool (p x)) ∧ Below W.heap.size W w')
  (hr : Kd.C (Kd.int .i64) w A zs.length zs) :
  Calls Try.prog 83 #[.slice A zs.length c, .func (.func g) #[] lb] w fun e w' => e = .returned (.int .i64 (ixOf p zs)) ∧ Below w.heap.size w w' := by
 have hbig : zs.length ≤ 9223372036854775807 := hr.2.1
 have HR := Aside0.mk hr
 have HP := Aside0.mk hp
 clear hr hp
 go_enter Try.func83, Try.ntmps83
 go_wp2
 go_loopg [5, 8] zs.length (fun gg _ s8 wr => ∃ kk : Nat, kk ≤ zs.length ∧ zs.length - kk ≤ gg ∧ s8 = .int .i64 kk ∧ Aside0 (Below w.heap.size w wr) ∧ Aside0 (∀ j (hj : j < zs.length), j < kk → p zs[j] = false))
 case atStart => exact ⟨0, Nat.zero_le _, by omega, rfl, ⟨Below.refl _ _⟩, ⟨fun j _ hj => absurd hj (Nat.not_lt_zero _)⟩⟩
 case round =>
  obtain ⟨kk, hkk, hg, rfl, HB, HA⟩ := hrel
  by_cases hlt : kk < zs.length
  ·have hltz : (kk : Int) < (zs.length : Int) := by omega
   obtain ⟨ad, e0, hx0⟩ := Kd.at_int HR.out (kk : Int) (by omega) hltz
   subst e0
   have ek : rd zs (kk : Int) = zs[kk] := by unfold rd; simp [List.getD_eq_getElem?_getD, hlt]
   rw [ek] at hx0
   simp only [Int.toNat_natCast] at hx0
   replace hx0 := (HB.out.cell (World.block_lt_of_cell? w _ hx0)).trans hx0
   have EK := Aside0.mk ek
   clear ek
   have hcall := HP.out _ zs[kk] HB.out
   cases hq : p zs[kk] with
   | true =>
    rw [hq] at hcall
    have HQ := Aside0.mk hq
    clear hq
    go_wp2_with (go_at_fn g; refine hcall.mono ?_; rintro e w' ⟨rfl, hb⟩)
    go_ret
    exact ⟨by rw [ixOf_hit p zs kk hlt HA.out HQ.out]; rfl, HB.out.trans (hb.mono HB.out.size)⟩
   | false =>
    rw [hq] at hcall
    have HQ := Aside0.mk hq
    clear hq
    go_wp2_with (go_at_fn g; refine hcall.mono ?_; rintro e w' ⟨rfl, hb⟩)
    go_roundg (zs.length - (kk + 1))
    case measure => omega
    case rel =>
     refine ⟨kk + 1, by omega, by omega, by go_num, ⟨HB.out.trans (hb.mono HB.out.size)⟩, ⟨fun j hj hjk => ?_⟩⟩
     by_cases e : j = kk
     ·subst e
      exact HQ.out
     ·exact HA.out j hj (by omega)
  ·have hltz : ¬ (kk : Int) < (zs.length : Int) := by omega
   have hk2 : kk = zs.length := by omega
   have HK := Aside0.mk hk2
   clear hk2
   go_wp2
   go_ret
   exact ⟨by rw [ixOf_miss p zs (fun j hj => HA.out j hj (by rw [HK.out]; exact hj))]; rfl, HB.out⟩

theorem hasInt (p : Int → Bool) (g : Nat) (lb : Array Value) (eg : ∀ args w, (callFunc g args).run Try.prog w = .ok (.enter g args) w) (A : Option Addr) (c : Nat) (zs : List Int) (w : World)
  (hp : ∀ (W : World) (x : Int), Below w.heap.size w W → Calls Try.prog g (#[.int .i64 x] ++ lb) W fun e w' => e = .returned (.bool (p x)) ∧ Below W.heap.size W w')
  (hr : Kd.C (Kd.int .i64) w A zs.length zs) :
  Calls Try.prog 48 #[.slice A zs.length c, .func (.func g) #[] lb] w fun e w' => e = .returned (.bool (zs.any p)) ∧ Below w.heap.size w w' := by
 have hc := ixInt p g lb eg A c zs w hp hr
 have h2 := (ixOf_any p zs).1
 clear hp hr
 generalize ixOf p zs = i at hc h2
 have H2 := Aside0.mk h2
 clear h2
 go_enter Try.func48, Try.ntmps48
 go_wp2_with (go_at_call 83; refine hc.mono ?_; rintro e w' ⟨rfl, hb⟩)
 go_ret
 exact ⟨by rw [H2.out]; rfl, hb⟩

theorem ixRe (p : S49 → Bool) (g : Nat) (lb : Array Value) (eg : ∀ args w, (callFunc g args).run Try.prog w = .ok (.enter g args) w) (A : Option Addr) (c : Nat) (zs : List S49) (w : World)
  (hp : ∀ (W : World) (Aj : Option Addr) (cj : Nat) (x : S49), x ∈ zs → Below w.heap.size w W → Kd.C (Kd.int .i64) W Aj x.f1.length x.f1 → x.f1.length ≤ cj → Calls Try.prog g (#[.agg #[.int .i64 x.f0, .slice Aj x.f1.length cj]] ++ lb) W fun e w' => e = .returned (.bool (p x)) ∧ Below W.heap.size W w')
  (hr : Kd.C k49 w A zs.length zs) :
  Calls Try.prog 82 #[.slice A zs.length c, .func (.func g) #[] lb] w fun e w' => e = .returned (.int .i64 (ixOf p zs)) ∧ Below w.heap.size w w' := by
 have hu49 := Try.underlying49
 have hbig : zs.length ≤ 9223372036854775807 := hr.2.1
 have HR := Aside0.mk hr
 have HP := Aside0.mk hp
 clear hr hp
 go_enter Try.func82, Try.ntmps82
 go_wp2
 go_loopg [5, 8] zs.length (fun gg _ s8 wr => ∃ kk : Nat, kk ≤ zs.length ∧ zs.length - kk ≤ gg ∧ s8 = .int .i64 kk ∧ Aside0 (Below w.heap.size w wr) ∧ Aside0 (∀ j (hj : j < zs.length), j < kk → p zs[j] = false))
 case atStart => exact ⟨0, Nat.zero_le _, by omega, rfl, ⟨Below.refl _ _⟩, ⟨fun j _ hj => absurd hj (Nat.not_lt_zero _)⟩⟩
 case round =>
  obtain ⟨kk, hkk, hg, rfl, HB, HA⟩ := hrel
  by_cases hlt : kk < zs.length
  ·have hltz : (kk : Int) < (zs.length : Int) := by omega
   obtain ⟨ad, Aj, cj, e0, hx0, hx1, hcj, hrow⟩ := at_T49 HR.out (kk : Int) (by omega) hltz
   subst e0
   have ek : rd_T49 zs (kk : Int) = zs[kk] := by unfold rd_T49; simp [List.getD_eq_getElem?_getD, hlt]
   rw [ek] at hx0 hx1 hcj hrow
   simp only [Int.toNat_natCast] at hx0 hx1
   replace hx0 := (HB.out.cell (World.block_lt_of_cell? w _ hx0)).trans hx0
   replace hx1 := (HB.out.cell (World.block_lt_of_cell? w _ hx1)).trans hx1
   have EK := Aside0.mk ek
   clear ek
   have hcall := HP.out _ Aj cj zs[kk] (List.getElem_mem _) HB.out (Kd.C_below hrow HB.out) hcj
   clear hrow hcj
   cases hq : p zs[kk] with
   | true =>
    rw [hq] at hcall
    have HQ := Aside0.mk hq
    clear hq
    go_wp2_with (go_at_fn g; refine hcall.mono ?_; rintro e w' ⟨rfl, hb⟩)
    go_ret
    exact ⟨by rw [ixOf_hit p zs kk hlt HA.out HQ.out]; rfl, HB.out.trans (hb.mono HB.out.size)⟩
   | false =>
    rw [hq] at hcall
    have HQ := Aside0.mk hq
    clear hq
    go_wp2_with (go_at_fn g; refine hcall.mono ?_; rintro e w' ⟨rfl, hb⟩)
    go_roundg (zs.length - (kk + 1))
    case measure => omega
    case rel =>
     refine ⟨kk + 1, by omega, by omega, by go_num, ⟨HB.out.trans (hb.mono HB.out.size)⟩, ⟨fun j hj hjk => ?_⟩⟩
     by_cases e : j = kk
     ·subst e
      exact HQ.out
     ·exact HA.out j hj (by omega)
  ·have hltz : ¬ (kk : Int) < (zs.length : Int) := by omega
   have hk2 : kk = zs.length := by omega
   have HK := Aside0.mk hk2
   clear hk2
   go_wp2
   go_ret
   exact ⟨by rw [ixOf_miss p zs (fun j hj => HA.out j hj (by rw [HK.out]; exact hj))]; rfl, HB.out⟩

theorem hasRe (p : S49 → Bool) (g : Nat) (lb : Array Value) (eg : ∀ args w, (callFunc g args).run Try.prog w = .ok (.enter g args) w) (A : Option Addr) (c : Nat) (zs : List S49) (w : World)
  (hp : ∀ (W : World) (Aj : Option Addr) (cj : Nat) (x : S49), x ∈ zs → Below w.heap.size w W → Kd.C (Kd.int .i64) W Aj x.f1.length x.f1 → x.f1.length ≤ cj → Calls Try.prog g (#[.agg #[.int .i64 x.f0, .slice Aj x.f1.length cj]] ++ lb) W fun e w' => e = .returned (.bool (p x)) ∧ Below W.heap.size W w')
  (hr : Kd.C k49 w A zs.length zs) :
  Calls Try.prog 45 #[.slice A zs.length c, .func (.func g) #[] lb] w fun e w' => e = .returned (.bool (zs.any p)) ∧ Below w.heap.size w w' := by
 have hc := ixRe p g lb eg A c zs w hp hr
 have h2 := (ixOf_any p zs).1
 clear hp hr
 generalize ixOf p zs = i at hc h2
 have H2 := Aside0.mk h2
 clear h2
 go_enter Try.func45, Try.ntmps45
 go_wp2_with (go_at_call 82; refine hc.mono ?_; rintro e w' ⟨rfl, hb⟩)
 go_ret
 exact ⟨by rw [H2.out]; rfl, hb⟩

/-- Is there one? Each is asked. -/
def anyO {α : Type} (f : α → Option Bool) (l : List α) : Option Bool := if l.all (fun x => (f x).isSome) = true then some (l.any fun x => (f x).getD false) else none
theorem anyO_some {α : Type} {f : α → Option Bool} {l : List α} {b : Bool} (h : anyO f l = some b) : (∀ x ∈ l, ∃ v, f x = some v) ∧ b = l.any fun x => (f x).getD false := by
 unfold anyO at h
 by_cases c : l.all (fun x => (f x).isSome) = true
 ·rw [if_pos c] at h
  refine ⟨fun x hx => ?_, (Option.some.inj h).symm⟩
  have := List.all_eq_true.1 c x hx
  exact Option.isSome_iff_exists.1 this
 ·rw [if_neg c] at h
  cases h
theorem anyO_mono {α : Type} {f g : α → Option Bool} (l : List α) (h : ∀ x, LeO (f x) (g x)) : LeO (anyO f l) (anyO g l) := by
 intro b hb
 obtain ⟨h1, h2⟩ := anyO_some hb
 have h3 : ∀ x ∈ l, g x = f x := fun x hx => by
  obtain ⟨v, hv⟩ := h1 x hx
  rw [hv]
  exact h x v hv
 unfold anyO
 have c : l.all (fun x => (g x).isSome) = true := List.all_eq_true.2 fun x hx => by
  obtain ⟨v, hv⟩ := h1 x hx
  rw [h3 x hx, hv]
  rfl
 rw [if_pos c, h2]
 congr 1
 rw [Bool.eq_iff_iff, List.any_eq_true, List.any_eq_true]
 exact ⟨fun ⟨x, hx, e⟩ => ⟨x, hx, by rw [← h3 x hx]; exact e⟩, fun ⟨x, hx, e⟩ => ⟨x, hx, by rw [h3 x hx]; exact e⟩⟩
def goodRuneV (r : Int) : Bool := decide (0 ≤ r ∧ r ≤ 1114111) && !decide (55296 ≤ r ∧ r ≤ 57343)
theorem goodRuneV_f (r : Int) : impl_GoodRune.f r = some (goodRuneV r) := by
 have e : ∀ a b c : Int, impl_inRange.f a b c = some (decide (b ≤ a ∧ a ≤ c)) := fun a b c => by
  unfold impl_inRange.f
  by_cases h : b ≤ a
  ·rw [if_pos h]; simp [h]
  ·rw [if_neg h]; simp [h]
 unfold impl_GoodRune.f goodRuneV
 rw [e, e]
 simp only [Option.bind_some]
 cases h : decide (0 ≤ r ∧ r ≤ 1114111) <;> simp
def badRuneV (r : Int) : Bool := !goodRuneV r
theorem goodRe_rune (W : World) (x : Int) :
  Calls Try.prog 49 (#[.int .i64 x] ++ #[]) W fun e w' => e = .returned (.bool (badRuneV x)) ∧ Below W.heap.size W w' := by
 have hvq := goodRuneV_f x
 have hb : badRuneV x = !goodRuneV x := rfl
 generalize goodRuneV x = q at hvq hb
 have HV := Aside0.mk hvq
 have HB := Aside0.mk hb
 clear hvq hb
 show Calls Try.prog 49 #[.int .i64 x] W _
 go_enter Try.func49, Try.ntmps49
 go_wp2_with (go_at_call 50; refine (impl_GoodRune.calls x q _ HV.out).mono ?_; rintro e w' ⟨rfl, ⟨nd, rfl⟩⟩)
 go_ret
 exact ⟨by rw [HB.out]; rfl, be_⟩
def badReO (k : Nat) (x : S49) : Option Bool := (impl_GoodSet.f k x.f1).bind fun g => some (!g || (x.f1.any badRuneV || (decide (x.f0 ≠ 2) && decide ((x.f1.length : Int) > 0))))
theorem goodRe_node (k : Nat) (W : World) (Aj : Option Addr) (cj : Nat) (x : S49) (v : Bool) (hr : Kd.C (Kd.int .i64) W Aj x.f1.length x.f1) (hc : x.f1.length ≤ cj) (h : badReO k x = some v) :
  Calls Try.prog 46 (#[.agg #[.int .i64 x.f0, .slice Aj x.f1.length cj]] ++ #[]) W fun e w' => e = .returned (.bool v) ∧ Below W.heap.size W w' := by
 have hu49 := Try.underlying49
 have eg : ∀ args w, (callFunc 49 args).run Try.prog w = .ok (.enter 49 args) w := enters_of Try.func49 (by kernel_rfl) rfl
 obtain ⟨op, set⟩ := x
 obtain ⟨g, hg, e⟩ := Option.bind_eq_some_iff.1 h
 replace hr : Kd.C (Kd.int .i64) W Aj set.length set := hr
 replace hc : set.length ≤ cj := hc
 replace hg : impl_GoodSet.f k set = some g := hg
 replace e : (!g || (set.any badRuneV || (decide (op ≠ 2) && decide ((set.length : Int) > 0)))) = v := Option.some.inj e
 have hl : set.length ≤ 9223372036854775807 := hr.2.1
 obtain ⟨W0, hW0⟩ : ∃ W0, W0 = W.alloc (.cells #[.int .i64 op, .slice Aj set.length cj] 49) := ⟨_, rfl⟩
 have hb0 : Below W.heap.size W W0 := by rw [hW0]; exact below_alloc (Below.refl _ _) _
 have hcell : ∀ W1, Below W0.heap.size W0 W1 → W1.cell? ⟨W.heap.size, 0, none⟩ = some (.int .i64 op) ∧ W1.cell? ⟨W.heap.size, 1, none⟩ = some (.slice Aj set.length cj) := by
  intro W1 hb
  have g1 : W0.cell? ⟨W.heap.size, 0, none⟩ = some (.int .i64 op) := by rw [hW0]; go_simp
  have g2 : W0.cell? ⟨W.heap.size, 1, none⟩ = some (.slice Aj set.length cj) := by rw [hW0]; go_simp
  exact ⟨(hb.cell (World.block_lt_of_cell? W0 _ g1)).trans g1, (hb.cell (World.block_lt_of_cell? W0 _ g2)).trans g2⟩
 have HB0 := Aside0.mk hb0
 have HCell := Aside0.mk hcell
 have HU := Aside0.mk (fun (W1 : World) (hb : Below W0.heap.size W0 W1) => impl_GoodSet.calls k Aj cj set g W1 (Kd.C_below hr (hb0.trans (hb.mono hb0.size))) hc hg)
 have HH := Aside0.mk (fun (W1 : World) (hb : Below W0.heap.size W0 W1) => hasInt badRuneV 49 #[] eg Aj cj set W1 (fun W' x _ => goodRe_rune W' x) (Kd.C_below hr (hb0.trans (hb.mono hb0.size))))
 have HBel := Aside0.mk (fun (n : Nat) => (pw_below_drewN (Below.refl W0.heap.size W0) n : Below W0.heap.size W0 (W0.drewN n)))
 clear hr hb0 hcell h hg
 subst hW0
 show Calls Try.prog 46 #[.agg #[.int .i64 op, .slice Aj set.length cj]] W _
 cases g with
 | false =>
  have HE : Aside0 (v = true) := ⟨by rw [← e]; rfl⟩
  clear e
  go_enter Try.func46, Try.ntmps46
  go_wp2_with (go_at_call 47; with_reducible refine (HU.out _ ?side).mono ?_; (case side => exact Below.refl _ _); rintro e w' ⟨rfl, ⟨nd, rfl⟩⟩)
  go_ret
  exact ⟨by rw [HE.out]; rfl, HB0.out.trans ((HBel.out _).mono HB0.out.size)⟩
 | true =>
  cases ha : set.any badRuneV with
  | true =>
   rw [ha] at e HH
   have HE : Aside0 (v = true) := ⟨by rw [← e]; rfl⟩
   clear e ha
   go_enter Try.func46, Try.ntmps46
   go_wp2_with (first | (go_at_call 47; with_reducible refine (HU.out _ ?side).mono ?_; (case side => exact Below.refl _ _); rintro e w' ⟨rfl, ⟨nd, rfl⟩⟩) | (go_at_call 48; with_reducible refine (HH.out _ ?side).mono ?_; (case side => exact HBel.out _); rintro e w' ⟨rfl, hb⟩; have hB5 := Aside0.mk ((HBel.out _).trans (hb.mono (HBel.out _).size)); clear hb))
   go_ret
   exact ⟨by rw [HE.out]; rfl, HB0.out.trans (hB5.out.mono HB0.out.size)⟩
  | false =>
   rw [ha] at e HH
   clear ha
   by_cases c1 : op ≠ 2
   ·have c1b : (op != 2) = true := by simpa using c1
    have c1c : decide (op ≠ 2) = true := decide_eq_true c1
    have HE : Aside0 (v = decide ((set.length : Int) > 0)) := ⟨by rw [← e, c1c]; rfl⟩
    clear e c1 c1c
    go_enter Try.func46, Try.ntmps46
    go_wp2_with (first | (go_at_call 47; with_reducible refine (HU.out _ ?side).mono ?_; (case side => exact Below.refl _ _); rintro e w' ⟨rfl, ⟨nd, rfl⟩⟩) | (go_at_call 48; with_reducible refine (HH.out _ ?side).mono ?_; (case side => exact HBel.out _); rintro e w' ⟨rfl, hb⟩; have hB5 := Aside0.mk ((HBel.out _).trans (hb.mono (HBel.out _).size)); have hx0 := (HCell.out _ hB5.out).1; have hx1 := (HCell.out _ hB5.out).2; clear hb))
    go_ret
    exact ⟨by rw [HE.out]; first | rfl | simp, HB0.out.trans (hB5.out.mono HB0.out.size)⟩
   ·have c1b : (op != 2) = false := by simpa using c1
    have c1c : decide (op ≠ 2) = false := decide_eq_false c1
    have HE : Aside0 (v = false) := ⟨by rw [← e, c1c]; rfl⟩
    clear e c1 c1c
    go_enter Try.func46, Try.ntmps46
    go_wp2_with (first | (go_at_call 47; with_reducible refine (HU.out _ ?side).mono ?_; (case side => exact Below.refl _ _); rintro e w' ⟨rfl, ⟨nd, rfl⟩⟩) | (go_at_call 48; with_reducible refine (HH.out _ ?side).mono ?_; (case side => exact HBel.out _); rintro e w' ⟨rfl, hb⟩; have hB5 := Aside0.mk ((HBel.out _).trans (hb.mono (HBel.out _).size)); have hx0 := (HCell.out _ hB5.out).1; have hx1 := (HCell.out _ hB5.out).2; clear hb))
    go_ret
    exact ⟨by rw [HE.out]; rfl, HB0.out.trans (hB5.out.mono HB0.out.size)⟩
def impl_GoodRe.f (k : Nat) (l0 : List S49) : Option Bool :=
 (impl_inRange.f (l0.length : Int) 1 40).bind fun t => if t = true then ((anyO (badReO k) l0).bind fun t2 => if t2 = true then some false else ((impl_parts.f k l0).bind fun q => some q.2)) else some false
theorem badReO_mono (k : Nat) (x : S49) : LeO (badReO k x) (badReO (k + 1) x) := LeO.bind (impl_GoodSet.mono _ _) (fun _ => LeO.refl _)
theorem impl_GoodRe.calls (k : Nat) (A0 : Option Addr) (c0 : Nat) (l0 : List S49) (r : Bool) (w : World) (hr0 : Kd.C k49 w A0 l0.length l0) (hc0 : l0.length ≤ c0) (h : impl_GoodRe.f k l0 = some r) :
  Calls Try.prog 16 #[.slice A0 l0.length c0] w fun e w' => e = .returned (.bool r) ∧ Below w.heap.size w w' := by
 have eg : ∀ args w, (callFunc 46 args).run Try.prog w = .ok (.enter 46 args) w := enters_of Try.func46 (by kernel_rfl) rfl
 have z0 : l0.length ≤ 9223372036854775807 := hr0.2.1
 unfold impl_GoodRe.f at h
 obtain ⟨t, ht, h⟩ := Option.bind_eq_some_iff.mp h
 have HI := Aside0.mk ht
 clear ht
 have HBel := Aside0.mk (fun (n : Nat) => (pw_below_drewN (Below.refl w.heap.size w) n : Below w.heap.size w (w.drewN n)))
 cases t with
 | false =>
  rw [if_neg (by simp)] at h
  obtain rfl := Option.some.inj h
  clear h hr0
  go_enter Try.func16, Try.ntmps16
  go_wp2_with (go_at_call 44; refine (impl_inRange.calls _ 1 40 false _ HI.out).mono ?_; rintro e w' ⟨rfl, ⟨nd, rfl⟩⟩)
  go_ret
  exact ⟨rfl, HBel.out _⟩
 | true =>
  rw [if_pos rfl] at h
  obtain ⟨t2, ht2, h⟩ := Option.bind_eq_some_iff.mp h
  obtain ⟨o1, o2⟩ := anyO_some ht2
  have HG := Aside0.mk (fun (W : World) (hb : Below w.heap.size w W) => hasRe (fun x => (badReO k x).getD false) 46 #[] eg A0 c0 l0 W (fun W' Aj cj x hx hb' hr hc => by
   obtain ⟨v, hvq⟩ := o1 x hx
   rw [hvq]
   exact goodRe_node k W' Aj cj x v hr hc hvq) (Kd.C_below hr0 hb))
  rw [← o2] at HG
  clear ht2 o1 o2
  cases t2 with
  | true =>
   rw [if_pos rfl] at h
   obtain rfl := Option.some.inj h
   clear h hr0
   go_enter Try.func16, Try.ntmps16
   go_wp2_with (first | (go_at_call 44; refine (impl_inRange.calls _ 1 40 true _ HI.out).mono ?_; rintro e w' ⟨rfl, ⟨nd, rfl⟩⟩) | (go_at_call 45; with_reducible refine (HG.out _ ?side).mono ?_; (case side => exact HBel.out _); rintro e w' ⟨rfl, hb⟩; have hB5 := Aside0.mk ((HBel.out _).trans (hb.mono (HBel.out _).size)); clear hb))
   go_ret
   exact ⟨rfl, hB5.out⟩
  | false =>
   rw [if_neg (by simp)] at h
   obtain ⟨q, hq, h⟩ := Option.bind_eq_some_iff.mp h
   obtain rfl := Option.some.inj h
   clear h
   obtain ⟨q1, q2⟩ := q
   have HP := Aside0.mk (fun (W : World) (hb : Below w.heap.size w W) => impl_parts.calls k A0 c0 l0 q1 q2 W (Kd.C_below hr0 hb) hc0 hq)
   clear hr0 hq
   go_enter Try.func16, Try.ntmps16
   go_wp2_with (first | (go_at_call 44; refine (impl_inRange.calls _ 1 40 true _ HI.out).mono ?_; rintro e w' ⟨rfl, ⟨nd, rfl⟩⟩) | (go_at_call 45; with_reducible refine (HG.out _ ?side).mono ?_; (case side => exact HBel.out _); rintro e w' ⟨rfl, hb⟩; have hB5 := Aside0.mk ((HBel.out _).trans (hb.mono (HBel.out _).size)); clear hb) | (go_at_call 51; with_reducible refine (HP.out _ hB5.out).mono ?_; rintro e w' ⟨v0_, rfl, ho, hb⟩; have hB6 := Aside0.mk (hB5.out.trans (hb.mono hB5.out.size)); clear hb))
   go_ret
   exact ⟨rfl, hB6.out⟩

def impl_clonePat.l0 : Nat → List (S49) → List (S49) → Int → Int → Option ((List (S49)))
 | 0, _, _, _, _ => none
 | k + 1, x3, x7, x8, x9 => if x9 < x8 then (if 0 ≤ x9 then (if x9 < (x7.length : Int) then ((slices_Clone_int_int.f ((rd_T49 x7 x9).f1)).bind fun t385 => (if x3.length < 4398046511104 then (impl_clonePat.l0 k (x3 ++ [(⟨(rd_T49 x7 x9).f0, t385⟩ : S49)]) x7 x8 (wrap64 (x9 + 1))) else (none))) else (none)) else (none)) else (some x3)
def impl_clonePat.f (k : Nat) (l0 : List (S49)) : Option ((List (S49))) := impl_clonePat.l0 k (([] : List (S49))) l0 (l0.length : Int) 0
def impl_clonePat.T5 : Bool × List (List Nat × List Nat) := (true, [([], []), ([], []), ([1], [1]), ([], []), ([3], [3]), ([4], [4]), ([2, 5], [2, 5]), ([6], [6]), ([0, 7, 5], [0, 7]), ([8, 8, 0, 1, 2, 3, 4, 5, 6, 7, 8], [0, 8])])
def impl_clonePat.B5 : List Nat := [0, 0, 2, 0, 8, 24, 62, 126, 255, 511]
theorem impl_clonePat.tab5 : rtab .any (opsOf Try.f69 5) = impl_clonePat.T5 := by kernel_rfl
theorem impl_clonePat.bits5 : waitsOk impl_clonePat.T5.2 impl_clonePat.B5 = true := by kernel_rfl
theorem impl_clonePat.calls (k : Nat) (A0 : Option Addr) (c0 : Nat) (l0 : List (S49)) (r : List (S49)) (w : World) (hr0 : Kd.C k49 w A0 l0.length l0) (hc0 : l0.length ≤ c0) (h : impl_clonePat.f k l0 = some r) :
  Calls Try.prog 69 #[.slice A0 l0.length c0] w fun e w' => ∃ v0_ : Value, e = .returned (v0_) ∧ Kd.S k49 49 w' w.heap.size (fun _ => True) v0_ r ∧ Below w.heap.size w w' := by
 have hu49 := Try.underlying49
 have HR0 := Aside0.mk hr0
 have HC0 := Aside0.mk hc0
 clear hr0 hc0
 have HB := Aside0.mk (Below.refl w.heap.size w)
 have H : (impl_clonePat.l0 k (([] : List (S49))) l0 (l0.length : Int) 0) = some r := h
 clear h
 obtain ⟨y380, hy380⟩ : ∃ y_ : List (S49), y_ = (([] : List (S49))) := ⟨_, rfl⟩
 replace H : (impl_clonePat.l0 k y380 l0 (l0.length : Int) 0) = some r := yz_ hy380 H
 have Ny380 := Aside0.mk hy380
 clear hy380
 have H' := Aside0.mk H
 clear H
 go_enter Try.func69, Try.ntmps69
 go_wp2_with (first | ((with_reducible refine gate_dst (N := 6) rfl ?_); refine Kd.S_lit k49 _ 49 ?hg (N := 6) ?hd (xs := ([] : List (S49))) (inner := []) (ok := fun _ => True) (okp := fun _ => True) ?hr ?hp (fun _ hk => hk) trivial (Below.refl _ _) (Nat.le_refl _) (by simp) ?_; (case hd => rfl); (case hg => rfl); (case hr => first | (go_simp; done) | (go_simp; rfl)); (case hp => exact (Reps.none _ _)); intro v381 w2 ho3 hb hg_ hnew_; clear hg_ hnew_; (first | rw [← Ny380.out] at ho3 | (simp only [Int.reduceToNat] at ho3; rw [← Ny380.out] at ho3)); have n0_ := Aside0.mk (Kd.S_lower ho3 (below_size bz_)); have n1_ := Aside0.mk (below_step bz_ hb); clear HB; have HO382 := n0_; have HB := n1_; clear n0_ n1_; clear hb ho3))
 go_loopg [3, 9] k (fun kq v3 v9 w' => ∃ (x3_1 : List (S49)) (x9_1 : Int), v9 = .int .i64 x9_1 ∧ Aside0 (impl_clonePat.l0 kq x3_1 l0 (l0.length : Int) x9_1 = some r) ∧ Aside0 (kq ≤ k) ∧ Aside0 (Kd.S k49 49 w' w.heap.size (fun _ => True) v3 x3_1) ∧ Aside0 (Below w.heap.size w w'))
 case atStart => exact ⟨(y380), (0), rs_, H', ⟨Nat.le_refl _⟩, ⟨by (with_reducible repeat (first | apply Kd.S_alloc | apply Kd.S_drewN | apply Kd.S_drew)); exact HO382.out⟩, ⟨bz_⟩⟩
 case round =>
  clear H'
  try clear p2
  obtain ⟨x3_1, x9_1, rfl, HA, HK1, HO_3, HB⟩ := hrel
  cases gk with
  | zero => exact absurd HA.out (by simp [impl_clonePat.l0])
  | succ k1 =>
   have H := HA.out
   clear HA
   simp only [impl_clonePat.l0] at H
   by_cases c4 : x9_1 < (l0.length : Int)
   ·rw [if_pos c4] at H
    have c4b0 := decide_eq_true c4
    clear c4
    by_cases c5 : 0 ≤ x9_1
    ·rw [if_pos c5] at H
     have c5b0 := decide_eq_true c5
     clear c5
     by_cases c6 : x9_1 < (l0.length : Int)
     ·rw [if_pos c6] at H
      have c6b0 := decide_eq_true c6
      clear c6
      replace H := Option.bind_eq_some_iff.mp H
      obtain ⟨t385, A70, H⟩ := H
      try dsimp only at H
      have A7 := Aside0.mk A70
      clear A70
      by_cases c8 : x3_1.length < 4398046511104
      ·rw [if_pos c8] at H
       have LMc8 := Aside0.mk c8
       clear c8
       obtain ⟨y388, hy388⟩ : ∃ y_ : List (S49), y_ = (x3_1 ++ [(⟨(rd_T49 l0 x9_1).f0, t385⟩ : S49)]) := ⟨_, rfl⟩
       replace H : (impl_clonePat.l0 k1 y388 l0 (l0.length : Int) (wrap64 (x9_1 + 1))) = some r := yz_ hy388 H
       have Ny388 := Aside0.mk hy388
       clear hy388
       have H' := Aside0.mk H
       clear H
       have p383 : 0 ≤ (x9_1 : Int) := of_decide_eq_true az_
       have q383 : x9_1 < (l0.length : Int) := of_decide_eq_true az_
       obtain ⟨ad383, A383_1, c383_1, e383, hx383_0, hx383_1, hl383_1, hi383_1⟩ := at_T49 HR0.out x9_1 p383 q383
       cases e383
       replace hx383_0 := (HB.out.cell (World.block_lt_of_cell? w _ hx383_0)).trans hx383_0
       replace hx383_1 := (HB.out.cell (World.block_lt_of_cell? w _ hx383_1)).trans hx383_1
       have HR383_1 := Aside0.mk hi383_1
       have HC383_1 := Aside0.mk hl383_1
       clear hi383_1 hl383_1
       replace p383 := eq_true p383
       replace q383 := eq_true q383
       try go_wp2_with (first | ((with_reducible refine gate_dst (N := 5) rfl ?_); refine box_event ?hg (N := 5) ?hd (cs := #[.int .i64 0, .slice none 0 0]) (t := 49) ?hr ?_; (case hd => rfl); (case hg => rfl); (case hr => first | (go_simp; done) | (go_simp; rfl)); intro gb384 hg w9 hbox hb; have n0_ := Aside0.mk (Kd.S_below (Kd.S_elderB (sz_ HO_3.out) gb384 (Nat.le_of_eq hg.symm)) hb); have n1_ := Aside0.mk (below_step bz_ hb); have n2_ := Aside0.mk (hbox); have n3_ := Aside0.mk ((hz_ hg : w.heap.size ≤ gb384)); have n4_ := Aside0.mk ((hz_ hg : w.heap.size ≤ gb384)); clear HO_3; clear HB; have HO_3 := n0_; have HB := n1_; have BK384 := n2_; have GW384 := n3_; have GE384 := n4_; clear n0_ n1_ n2_ n3_ n4_; clear hb hbox hg; have hcz10_0 : w9.cell? ⟨gb384, 0, none⟩ = some (.int .i64 0) := (blk_cell BK384.out 0).trans rfl; have hcz10_1 : w9.cell? ⟨gb384, 1, none⟩ = some (.slice none 0 0) := (blk_cell BK384.out 1).trans rfl; have hfz10_0 := blk_frozen BK384.out 0; have hfz10_1 := blk_frozen BK384.out 1))
       have n0_ : Aside0 (Kd.S k49 49 ((w9.setCell ⟨gb384, 0, none⟩ (.int .i64 ((rd_T49 l0 x9_1).f0))).setCell ⟨gb384, 1, none⟩ (.slice A383_1 ((rd_T49 l0 x9_1).f1).length c383_1)) w.heap.size (fun k_ => k_ ≠ gb384) u3 x3_1) := ⟨by (with_reducible repeat (first | apply Kd.S_alloc | apply Kd.S_drewN | apply Kd.S_drew)); exact Kd.S_mono (Kd.S_far (p := ⟨gb384, 1, none⟩) (Kd.S_far (p := ⟨gb384, 0, none⟩) (Kd.S_mono HO_3.out (fun k_ hk => (⟨hk, hk.2⟩ : _ ∧ k_ ≠ gb384))) (fun _ hk => hk.2) (.int .i64 ((rd_T49 l0 x9_1).f0))) (fun _ hk => hk.2) (.slice A383_1 ((rd_T49 l0 x9_1).f1).length c383_1)) (fun _ hk => hk.1.2)⟩
       have n1_ : Aside0 (((w9.setCell ⟨gb384, 0, none⟩ (.int .i64 ((rd_T49 l0 x9_1).f0))).setCell ⟨gb384, 1, none⟩ (.slice A383_1 ((rd_T49 l0 x9_1).f1).length c383_1)).heap[gb384]? = some (.cells #[.int .i64 ((rd_T49 l0 x9_1).f0), .slice A383_1 ((rd_T49 l0 x9_1).f1).length c383_1] 49 (0, 0))) := ⟨by (with_reducible repeat (first | refine blk_drewN ?_ _ | refine blk_drew ?_ | refine blk_alloc ?_ _)); refine blk_put (cs := #[.int .i64 ((rd_T49 l0 x9_1).f0), .slice none 0 0]) ?_ 1 _ rfl; (with_reducible repeat (first | refine blk_drewN ?_ _ | refine blk_drew ?_ | refine blk_alloc ?_ _)); refine blk_put (cs := #[.int .i64 0, .slice none 0 0]) ?_ 0 _ rfl; (with_reducible repeat (first | refine blk_drewN ?_ _ | refine blk_drew ?_ | refine blk_alloc ?_ _)); exact BK384.out⟩
       have n2_ : Aside0 (Below w.heap.size w ((w9.setCell ⟨gb384, 0, none⟩ (.int .i64 ((rd_T49 l0 x9_1).f0))).setCell ⟨gb384, 1, none⟩ (.slice A383_1 ((rd_T49 l0 x9_1).f1).length c383_1))) := ⟨bg_ GE384.out⟩
       (try clear HO_3)
       (try clear BK384)
       (try clear HB)
       generalize ((w9.setCell ⟨gb384, 0, none⟩ (.int .i64 ((rd_T49 l0 x9_1).f0))).setCell ⟨gb384, 1, none⟩ (.slice A383_1 ((rd_T49 l0 x9_1).f1).length c383_1)) = w11 at n0_ n1_ n2_ ⊢
       have HO_3 := n0_
       have BK384 := n1_
       have HB := n2_
       clear n0_ n1_ n2_
       have n0_ := Aside0.mk (Kd.S_drew HO_3.out)
       have n1_ := Aside0.mk (blk_drew BK384.out)
       have n2_ := Aside0.mk (below_drew1 HB.out)
       clear HO_3
       clear BK384
       clear HB
       have HO_3 := n0_
       have BK384 := n1_
       have HB := n2_
       clear n0_ n1_ n2_
       refine start_ (n := 10) (S := fun w' => w'.cell? ⟨gb384, 0, none⟩ = some (.int .i64 ((rd_T49 l0 x9_1).f0)) ∧ w'.cell? ⟨gb384, 1, none⟩ = some (.slice A383_1 ((rd_T49 l0 x9_1).f1).length c383_1)) (ds := []) #[false, false, false, false, false, false, false, false, false, false] (by kernel_rfl) rfl rfl ⟨(blk_cell BK384.out 0).trans rfl, (blk_cell BK384.out 1).trans rfl⟩ (fun hHeld => ?_); refine with_tabW impl_clonePat.tab5 impl_clonePat.bits5 (fun HT_ HW_ => ?_)
       generalize w11.drew = w12 at HO_3 BK384 HB hHeld ⊢
       refine pure_ (i := 0) (N := some 13) (v := ?_) (a' := ?_) #[true, false, false, false, false, false, false, false, false, false] rfl rfl (any_of HT_.out (by kernel_rfl)) (fun _ _ _ h => h) (Or.inl ⟨by rfl, ?_⟩) ?_ ?_
       rotate_left
       ·intro w'
        go_simp
        with_reducible rfl
       rotate_left
       ·simp only [Act.put, List.setIfInBounds_toArray, List.set_cons_zero, List.set_cons_succ, i64_w, i32_w]
        rfl
       refine pure_ (i := 1) (N := some 14) (v := ?_) (a' := ?_) #[true, true, false, false, false, false, false, false, false, false] rfl rfl (any_of HT_.out (by kernel_rfl)) (fun _ _ _ h => h) (Or.inl ⟨by rfl, ?_⟩) ?_ ?_
       rotate_left
       ·intro w'
        go_simp
        with_reducible rfl
       rotate_left
       ·simp only [Act.put, List.setIfInBounds_toArray, List.set_cons_zero, List.set_cons_succ, i64_w, i32_w]
        rfl
       refine pure_ (i := 3) (N := some 16) (v := ?_) (a' := ?_) #[true, true, false, true, false, false, false, false, false, false] rfl rfl (any_of HT_.out (by kernel_rfl)) (fun _ _ _ h => h) (Or.inl ⟨by rfl, ?_⟩) ?_ ?_
       rotate_left
       ·intro w'
        go_simp
        with_reducible rfl
       rotate_left
       ·simp only [Act.put, List.setIfInBounds_toArray, List.set_cons_zero, List.set_cons_succ, i64_w, i32_w]
        rfl
       refine take_ (i := 2) (N := some 15) (v := ?_) (a' := ?_) #[true, true, true, true, false, false, false, false, false, false] rfl rfl (take_ofW HT_.out HW_.out (by kernel_rfl)) (fun _ _ _ h => h) (Or.inl ⟨by rfl, ?_⟩) hHeld ?_ ?_
       rotate_left
       ·rintro w' ⟨s0, s1⟩
        go_simp
        with_reducible rfl
       rotate_left
       ·simp only [Act.put, List.setIfInBounds_toArray, List.set_cons_zero, List.set_cons_succ, i64_w, i32_w]
        rfl
       refine take_ (i := 4) (N := some 17) (v := ?_) (a' := ?_) #[true, true, true, true, true, false, false, false, false, false] rfl rfl (take_ofW HT_.out HW_.out (by kernel_rfl)) (fun _ _ _ h => h) (Or.inl ⟨by rfl, ?_⟩) hHeld ?_ ?_
       rotate_left
       ·rintro w' ⟨s0, s1⟩
        go_simp
        with_reducible rfl
       rotate_left
       ·simp only [Act.put, List.setIfInBounds_toArray, List.set_cons_zero, List.set_cons_succ, i64_w, i32_w]
        rfl
       refine one_ (i := 5) (N := some 18) #[true, true, true, true, true, true, false, false, false, false] rfl rfl (one_of HT_.out (by kernel_rfl)) (by decide) (fun K hK => ?_)
       refine goes_ Try.func85 (by kernel_rfl) rfl #[.slice A383_1 ((rd_T49 l0 x9_1).f1).length c383_1] (by rfl) rfl rfl mz_ ?_
       with_reducible refine (slices_Clone_int_int.calls _ _ ((rd_T49 l0 x9_1).f1) t385 _ ?side1 ?side2 A7.out).mono ?_
       (case side1 => exact cy_ HR383_1.out HB.out)
       (case side2 => exact HC383_1.out)
       rintro e w13 ⟨v386, rfl, ho0, hb⟩
       refine ⟨_, rfl, ?_⟩
       have n0_ := Aside0.mk (Kd.S_elder' (sz_ HO_3.out) (Kd.R_base ho0) hb)
       have n1_ := Aside0.mk (Kd.R_lower ho0 (below_size (bg_ GE384.out)))
       have n2_ := Aside0.mk (blk_below (g := gb384) (o := .cells #[.int .i64 ((rd_T49 l0 x9_1).f0), .slice A383_1 ((rd_T49 l0 x9_1).f1).length c383_1] 49 (0, 0)) (kz_ BK384.out) hb)
       have n3_ := Aside0.mk (below_step (bg_ GE384.out) hb)
       clear HO_3
       clear BK384
       clear HB
       have HO_3 := n0_
       have HO387 := n1_
       have BK384 := n2_
       have HB := n3_
       clear n0_ n1_ n2_ n3_
       
       
       
       
       (try clear ho0)
       obtain ⟨Ao14, co14, eo14⟩ := Kd.R_slice HO387.out
       (first | subst eo14 | (injection eo14 with f1_ f2_ f3_; have f4_ := f1_.symm; have f5_ := f3_.symm; clear f1_ f2_ f3_; subst f4_; subst f5_))
       refine hK.out _ _ ⟨(blk_cell BK384.out 0).trans rfl, (blk_cell BK384.out 1).trans rfl⟩ (fun hHeld => ?_)
       clear hK K
       refine norm_ (a' := ?_) ?_ ?_
       rotate_left
       ·show Act.put _ (some 18) _ = _
        simp only [Act.put, List.setIfInBounds_toArray, List.set_cons_zero, List.set_cons_succ, i64_w, i32_w]
        rfl
       refine pure_ (i := 6) (N := some 19) (v := ?_) (a' := ?_) #[true, true, true, true, true, true, true, false, false, false] rfl rfl (any_of HT_.out (by kernel_rfl)) (fun _ _ _ h => h) (Or.inl ⟨by rfl, ?_⟩) ?_ ?_
       rotate_left
       ·intro w'
        go_simp
        with_reducible rfl
       rotate_left
       ·simp only [Act.put, List.setIfInBounds_toArray, List.set_cons_zero, List.set_cons_succ, i64_w, i32_w]
        rfl
       refine one_ (i := 7) (N := some 20) #[true, true, true, true, true, true, true, true, false, false] rfl rfl (one_of HT_.out (by kernel_rfl)) (by decide) (fun K hK => ?_)
       refine value_ (w1 := ?_) (v := ?_) (by rfl) rfl ?_ ?_
       rotate_left 2
       ·go_simp
        constructor
        ·rfl
        ·rfl
       refine hK.out _ _ ⟨(blk_cell (blk_alloc BK384.out _) 0).trans rfl, (blk_cell (blk_alloc BK384.out _) 1).trans rfl⟩ (fun hHeld => ?_)
       clear hK K
       refine norm_ (a' := ?_) ?_ ?_
       rotate_left
       ·show Act.put _ (some 20) _ = _
        simp only [Act.put, List.setIfInBounds_toArray, List.set_cons_zero, List.set_cons_succ, i64_w, i32_w]
        rfl
       refine one_ (i := 8) (N := some 21) #[true, true, true, true, true, true, true, true, true, false] rfl rfl (one_of HT_.out (by kernel_rfl)) (by decide) (fun K hK => ?_)
       refine Kd.S_append_step k49 (w0 := w) w.heap.size (by rfl) (.tmp 13) (.tmp 20) 25 49 (.agg #[(.int .i64 0), (.slice none 0 0)]) 32 rfl Try.underlying25 info49 rfl (by decide) (by omega) u3 x3_1 (⟨(rd_T49 l0 x9_1).f0, t385⟩ : S49) [.int .i64 ((rd_T49 l0 x9_1).f0), .slice Ao14 t385.length co14] (fun k_ => k_ ≠ gb384) (fun k_ => some k_ = (.slice Ao14 t385.length co14 : Value).ownBlock) rfl rfl ?aP (fun k_ hk_ => ((Kd.R_mono (ok' := fun k_ => ((fun k_ => k_ ≠ gb384)) k_ ∧ some k_ ≠ (u3 : Value).ownBlock) (Kd.R_types (Kd.R_apart' (HO387.out) (Kd.S_typed HO_3.out) (by decide)) BK384.out (by decide)) (fun k_ hk => ⟨hk.2, hk.1.2⟩))).1 k_ hk_.symm) ?aF ?aO ?aB ?aS ?aL ?_
       (case aP => exact k49_mkM _ _ _ (⟨(rd_T49 l0 x9_1).f0, t385⟩ : S49) (Kd.R_mono (Kd.R_tight rfl (Kd.R_mono (ok' := fun k_ => ((fun k_ => k_ ≠ gb384)) k_ ∧ some k_ ≠ (u3 : Value).ownBlock) (Kd.R_types (Kd.R_apart' (HO387.out) (Kd.S_typed HO_3.out) (by decide)) BK384.out (by decide)) (fun k_ hk => ⟨hk.2, hk.1.2⟩))) (fun _ h_ => h_)))
       (case aB => exact (bg_ GE384.out))
       (case aF => exact (fun k_ hk => Kd.freshB (g := gb384) (o := .cells #[.int .i64 ((rd_T49 l0 x9_1).f0), .slice A383_1 ((rd_T49 l0 x9_1).f1).length c383_1] 49 (0, 0)) (kz_ BK384.out) k_ hk))
       (case aO => exact (by (with_reducible repeat (first | apply Kd.S_alloc | apply Kd.S_drewN | apply Kd.S_drew)); exact Kd.S_mono HO_3.out (fun k_ hk => ⟨hk.1, fun e_ => hk.2 e_⟩)))
       (case aS => exact (below_size (bg_ GE384.out)))
       (case aL => have := LMc8.out; omega)
       intro v389 w15 ho hb hg hat
       rw [← Ny388.out] at ho
       have n0_ := Aside0.mk (blk_grown (g := gb384) (o := .cells #[.int .i64 ((rd_T49 l0 x9_1).f0), .slice A383_1 ((rd_T49 l0 x9_1).f1).length c383_1] 49 (0, 0)) (kz_ BK384.out) hg (Kd.S_away HO_3.out (fun _ hk => hk.1)))
       have n1_ := Aside0.mk (hb)
       have n2_ := Aside0.mk (ho)
       clear BK384
       clear HB
       clear HO_3
       clear HO387
       have BK384 := n0_
       have HB := n1_
       have HO390 := n2_
       clear n0_ n1_ n2_
       clear ho hb hg hat
       refine hK.out _ _ ⟨(blk_cell BK384.out 0).trans rfl, (blk_cell BK384.out 1).trans rfl⟩ (fun hHeld => ?_)
       clear hK K
       refine norm_ (a' := ?_) ?_ ?_
       rotate_left
       ·show Act.put _ (some 21) _ = _
        simp only [Act.put, List.setIfInBounds_toArray, List.set_cons_zero, List.set_cons_succ, i64_w, i32_w]
        rfl
       refine pure_ (i := 9) (N := some 3) (v := ?_) (a' := ?_) #[true, true, true, true, true, true, true, true, true, true] rfl rfl (any_of HT_.out (by kernel_rfl)) (fun _ _ _ h => h) (Or.inl ⟨by rfl, ?_⟩) ?_ ?_
       rotate_left
       ·intro w'
        go_simp
        with_reducible rfl
       rotate_left
       ·simp only [Act.put, List.setIfInBounds_toArray, List.set_cons_zero, List.set_cons_succ, i64_w, i32_w]
        rfl
       refine done_ (done_of HT_.out (by kernel_rfl)) ?_
       try go_wp2
       go_roundg k1
       case measure => have := HK1.out; omega
       case rel => exact ⟨(y388), (wrap64 (x9_1 + 1)), rs_, H', ⟨by have := HK1.out; omega⟩, ⟨by (with_reducible repeat (first | apply Kd.S_alloc | apply Kd.S_drewN | apply Kd.S_drew)); exact Kd.S_mono HO390.out (fun _ hk => trivial)⟩, ⟨bg_ GE384.out⟩⟩
      ·rw [if_neg c8] at H
       exact absurd H (by simp)
     ·rw [if_neg c6] at H
      exact absurd H (by simp)
    ·rw [if_neg c5] at H
     exact absurd H (by simp)
   ·rw [if_neg c4] at H
    have c4b0 := decide_eq_false c4
    (try rw [hl0_1] at c4b0)
    clear c4
    obtain rfl := Option.some.inj H
    go_wp2
    go_ret
    exact ⟨_, rr_, sz_ HO_3.out, bz_⟩

def impl_split.f (k : Nat) (l0 : List (S49)) : Option (Int × (List (S49)) × (List (S49))) := if 0 ≤ (wrap64 ((l0.length : Int) - 1)) then (if (wrap64 ((l0.length : Int) - 1)) < (l0.length : Int) then ((impl_partsOf.f k ((rd_T49 l0 (wrap64 ((l0.length : Int) - 1))).f0)).bind fun t392 => (if t392 = 0 then (some ((rd_T49 l0 (wrap64 ((l0.length : Int) - 1))).f0, ([] : List (S49)), ([] : List (S49)))) else (if t392 = 1 then (if (wrap64 ((l0.length : Int) - 1)) ≤ (l0.length : Int) then (some ((rd_T49 l0 (wrap64 ((l0.length : Int) - 1))).f0, (l0.take ((wrap64 ((l0.length : Int) - 1)) : Int).toNat), ([] : List (S49)))) else (none)) else ((impl_parts.f k l0).bind fun bt400 => (if (wrap64 ((l0.length : Int) - 1)) < (bt400.1.length : Int) then (if 0 < ((rd_L1 bt400.1 (wrap64 ((l0.length : Int) - 1))).length : Int) then (if 0 ≤ (wrap64 ((rd (rd_L1 bt400.1 (wrap64 ((l0.length : Int) - 1))) 0) + 1)) then (if (wrap64 ((rd (rd_L1 bt400.1 (wrap64 ((l0.length : Int) - 1))) 0) + 1)) ≤ (l0.length : Int) then (if (wrap64 ((rd (rd_L1 bt400.1 (wrap64 ((l0.length : Int) - 1))) 0) + 1)) ≤ (wrap64 ((l0.length : Int) - 1)) then (if (wrap64 ((l0.length : Int) - 1)) ≤ (l0.length : Int) then (some ((rd_T49 l0 (wrap64 ((l0.length : Int) - 1))).f0, (l0.take ((wrap64 ((rd (rd_L1 bt400.1 (wrap64 ((l0.length : Int) - 1))) 0) + 1)) : Int).toNat), ((l0.take ((wrap64 ((l0.length : Int) - 1)) : Int).toNat).drop ((wrap64 ((rd (rd_L1 bt400.1 (wrap64 ((l0.length : Int) - 1))) 0) + 1)) : Int).toNat))) else (none)) else (none)) else (none)) else (none)) else (none)) else (none)))))) else (none)) else (none)
theorem impl_split.calls (k : Nat) (P0_ : Nat → Prop) (A0 : Option Addr) (c0 : Nat) (l0 : List (S49)) (r1 : Int) (r2 : List (S49)) (r3 : List (S49)) (w : World) (hs0 : Kd.V k49 49 w w.heap.size (fun k_ => P0_ k_) (.slice A0 l0.length c0) l0) (h : impl_split.f k l0 = some (r1, r2, r3)) :
  Calls Try.prog 95 #[.slice A0 l0.length c0] w fun e w' => ∃ v1_ v2_ : Value, e = .returned (.tuple #[.int .i64 r1, v1_, v2_]) ∧ Kd.V k49 49 w' w.heap.size (fun k_ => (P0_ k_ ∨ w.heap.size ≤ k_)) v1_ r2 ∧ Kd.V k49 49 w' w.heap.size (fun k_ => (P0_ k_ ∨ w.heap.size ≤ k_)) v2_ r3 ∧ Below w.heap.size w w' := by
 have HO0 := Aside0.mk (show Kd.V k49 49 w w.heap.size (fun k_ => (P0_ k_ ∨ w.heap.size ≤ k_)) (.slice A0 l0.length c0) l0 from Kd.V_mono hs0 (fun k_ hk => .inl hk))
 have HB := Aside0.mk (Below.refl w.heap.size w)
 have H : (if 0 ≤ (wrap64 ((l0.length : Int) - 1)) then (if (wrap64 ((l0.length : Int) - 1)) < (l0.length : Int) then ((impl_partsOf.f k ((rd_T49 l0 (wrap64 ((l0.length : Int) - 1))).f0)).bind fun t392 => (if t392 = 0 then (some ((rd_T49 l0 (wrap64 ((l0.length : Int) - 1))).f0, ([] : List (S49)), ([] : List (S49)))) else (if t392 = 1 then (if (wrap64 ((l0.length : Int) - 1)) ≤ (l0.length : Int) then (some ((rd_T49 l0 (wrap64 ((l0.length : Int) - 1))).f0, (l0.take ((wrap64 ((l0.length : Int) - 1)) : Int).toNat), ([] : List (S49)))) else (none)) else ((impl_parts.f k l0).bind fun bt400 => (if (wrap64 ((l0.length : Int) - 1)) < (bt400.1.length : Int) then (if 0 < ((rd_L1 bt400.1 (wrap64 ((l0.length : Int) - 1))).length : Int) then (if 0 ≤ (wrap64 ((rd (rd_L1 bt400.1 (wrap64 ((l0.length : Int) - 1))) 0) + 1)) then (if (wrap64 ((rd (rd_L1 bt400.1 (wrap64 ((l0.length : Int) - 1))) 0) + 1)) ≤ (l0.length : Int) then (if (wrap64 ((rd (rd_L1 bt400.1 (wrap64 ((l0.length : Int) - 1))) 0) + 1)) ≤ (wrap64 ((l0.length : Int) - 1)) then (if (wrap64 ((l0.length : Int) - 1)) ≤ (l0.length : Int) then (some ((rd_T49 l0 (wrap64 ((l0.length : Int) - 1))).f0, (l0.take ((wrap64 ((rd (rd_L1 bt400.1 (wrap64 ((l0.length : Int) - 1))) 0) + 1)) : Int).toNat), ((l0.take ((wrap64 ((l0.length : Int) - 1)) : Int).toNat).drop ((wrap64 ((rd (rd_L1 bt400.1 (wrap64 ((l0.length : Int) - 1))) 0) + 1)) : Int).toNat))) else (none)) else (none)) else (none)) else (none)) else (none)) else (none)))))) else (none)) else (none)) = some (r1, r2, r3) := h
 clear h
 obtain ⟨ji2, hji2⟩ : ∃ j_ : Int, (wrap64 ((l0.length : Int) - 1)) = j_ := ⟨_, rfl⟩
 replace H : (if 0 ≤ (ji2) then (if (ji2) < (l0.length : Int) then ((impl_partsOf.f k ((rd_T49 l0 (ji2)).f0)).bind fun t392 => (if t392 = 0 then (some ((rd_T49 l0 (ji2)).f0, ([] : List (S49)), ([] : List (S49)))) else (if t392 = 1 then (if (ji2) ≤ (l0.length : Int) then (some ((rd_T49 l0 (ji2)).f0, (l0.take ((ji2) : Int).toNat), ([] : List (S49)))) else (none)) else ((impl_parts.f k l0).bind fun bt400 => (if (ji2) < (bt400.1.length : Int) then (if 0 < ((rd_L1 bt400.1 (ji2)).length : Int) then (if 0 ≤ (wrap64 ((rd (rd_L1 bt400.1 (ji2)) 0) + 1)) then (if (wrap64 ((rd (rd_L1 bt400.1 (ji2)) 0) + 1)) ≤ (l0.length : Int) then (if (wrap64 ((rd (rd_L1 bt400.1 (ji2)) 0) + 1)) ≤ (ji2) then (if (ji2) ≤ (l0.length : Int) then (some ((rd_T49 l0 (ji2)).f0, (l0.take ((wrap64 ((rd (rd_L1 bt400.1 (ji2)) 0) + 1)) : Int).toNat), ((l0.take ((ji2) : Int).toNat).drop ((wrap64 ((rd (rd_L1 bt400.1 (ji2)) 0) + 1)) : Int).toNat))) else (none)) else (none)) else (none)) else (none)) else (none)) else (none)))))) else (none)) else (none)) = some (r1, r2, r3) := jz_ hji2 H
 have hji2w : (IntKind.i64.wrap ((l0.length : Int) - 1)) = ji2 := (i64_w _).trans hji2
 by_cases c3 : 0 ≤ (ji2)
 ·rw [if_pos c3] at H
  have c3b0 := decide_eq_true c3
  clear c3
  by_cases c4 : (ji2) < (l0.length : Int)
  ·rw [if_pos c4] at H
   have c4b0 := decide_eq_true c4
   clear c4
   replace H := Option.bind_eq_some_iff.mp H
   obtain ⟨t392, A50, H⟩ := H
   try dsimp only at H
   have A5 := Aside0.mk A50
   clear A50
   by_cases c6 : t392 = 0
   ·rw [if_pos c6] at H
    have c6b0 := q1_ c6
    have c6b1 := q2_ c6
    clear c6
    simp only [Option.some.injEq, Prod.mk.injEq] at H
    obtain ⟨rfl, rfl, rfl⟩ := H
    have p391 : 0 ≤ ((ji2) : Int) := of_decide_eq_true az_
    have q391 : (ji2) < (l0.length : Int) := of_decide_eq_true az_
    obtain ⟨ad391, A391_1, c391_1, e391, hx391_0, hx391_1, hl391_1, hi391_1⟩ := at_T49 (Kd.V_reads' HO0.out).2.2 (ji2) p391 q391
    cases e391
    obtain ⟨ce391, hce391, hMe391, hcc391⟩ := Kd.V_get HO0.out z49 (ji2) p391 (by first | exact q391 | exact of_decide_eq_true az_ | (have e_ := (Kd.V_reads' HO0.out).1; omega))
    obtain ⟨ua391_1, uc391_1, rfl, ul391_1, ge391_1⟩ := k49_openF hMe391
    have hv391_1 := hcc391 1 _ rfl
    rw [add_field _ _ 1 (by omega)] at hv391_1
    replace hv391_1 := Option.some.inj (hv391_1.symm.trans hx391_1)
    injection hv391_1 with hva_ hvn_ hvc_
    rw [hva_] at ge391_1
    rw [hvc_] at ul391_1
    have HL391_1 := Aside0.mk (show Kd.V (Kd.int .i64) 3 _ w.heap.size _ _ ((rd_T49 l0 (ji2)).f1) from Kd.V_mk ul391_1 ge391_1)
    clear hva_ hvn_ hvc_ ge391_1 ul391_1
    clear hcc391 hce391
    have HR391_1 := Aside0.mk hi391_1
    have HC391_1 := Aside0.mk hl391_1
    clear hi391_1 hl391_1
    replace p391 := eq_true p391
    replace q391 := eq_true q391
    go_enter Try.func95, Try.ntmps95
    go_wp2_with (first | (go_at_call 84; (with_reducible refine (impl_partsOf.calls k ((rd_T49 l0 (ji2)).f0) t392 _ A5.out).mono ?_); rintro e w' ⟨rfl, ⟨nd, rfl⟩⟩; (try exact dw_); have p393 : 0 ≤ ((ji2) : Int) := of_decide_eq_true az_; have q393 : (ji2) < (l0.length : Int) := of_decide_eq_true az_; obtain ⟨ad393, A393_1, c393_1, e393, hx393_0, hx393_1, hl393_1, hi393_1⟩ := at_T49 (Kd.V_reads' HO0.out).2.2 (ji2) p393 q393; obtain rfl : ad391 = ad393 := (by injection e393); obtain ⟨ce393, hce393, hMe393, hcc393⟩ := Kd.V_get HO0.out z49 (ji2) p393 (by first | exact q393 | exact of_decide_eq_true az_ | (have e_ := (Kd.V_reads' HO0.out).1; omega)); obtain ⟨ua393_1, uc393_1, rfl, ul393_1, ge393_1⟩ := k49_openF hMe393; have hv393_1 := hcc393 1 _ rfl; rw [add_field _ _ 1 (by omega)] at hv393_1; replace hv393_1 := Option.some.inj (hv393_1.symm.trans hx393_1); injection hv393_1 with hva_ hvn_ hvc_; rw [hva_] at ge393_1; rw [hvc_] at ul393_1; have HL393_1 := Aside0.mk (show Kd.V (Kd.int .i64) 3 _ w.heap.size _ _ ((rd_T49 l0 (ji2)).f1) from Kd.V_mk ul393_1 ge393_1); clear hva_ hvn_ hvc_ ge393_1 ul393_1; clear hcc393 hce393; have HR393_1 := Aside0.mk hi393_1; have HC393_1 := Aside0.mk hl393_1; clear hi393_1 hl393_1; replace p393 := eq_true p393; replace q393 := eq_true q393; have ea_ := Option.some.inj (hx391_1.symm.trans hx393_1); injection ea_ with ea_ en_ ec_; subst ea_; subst ec_; clear en_))
    repeat (go_quiet (first | (go_at_call 84; (with_reducible refine (impl_partsOf.calls k ((rd_T49 l0 (ji2)).f0) t392 _ A5.out).mono ?_); rintro e w' ⟨rfl, ⟨nd, rfl⟩⟩; (try exact dw_); have p393 : 0 ≤ ((ji2) : Int) := of_decide_eq_true az_; have q393 : (ji2) < (l0.length : Int) := of_decide_eq_true az_; obtain ⟨ad393, A393_1, c393_1, e393, hx393_0, hx393_1, hl393_1, hi393_1⟩ := at_T49 (Kd.V_reads' HO0.out).2.2 (ji2) p393 q393; obtain rfl : ad391 = ad393 := (by injection e393); obtain ⟨ce393, hce393, hMe393, hcc393⟩ := Kd.V_get HO0.out z49 (ji2) p393 (by first | exact q393 | exact of_decide_eq_true az_ | (have e_ := (Kd.V_reads' HO0.out).1; omega)); obtain ⟨ua393_1, uc393_1, rfl, ul393_1, ge393_1⟩ := k49_openF hMe393; have hv393_1 := hcc393 1 _ rfl; rw [add_field _ _ 1 (by omega)] at hv393_1; replace hv393_1 := Option.some.inj (hv393_1.symm.trans hx393_1); injection hv393_1 with hva_ hvn_ hvc_; rw [hva_] at ge393_1; rw [hvc_] at ul393_1; have HL393_1 := Aside0.mk (show Kd.V (Kd.int .i64) 3 _ w.heap.size _ _ ((rd_T49 l0 (ji2)).f1) from Kd.V_mk ul393_1 ge393_1); clear hva_ hvn_ hvc_ ge393_1 ul393_1; clear hcc393 hce393; have HR393_1 := Aside0.mk hi393_1; have HC393_1 := Aside0.mk hl393_1; clear hi393_1 hl393_1; replace p393 := eq_true p393; replace q393 := eq_true q393; have ea_ := Option.some.inj (hx391_1.symm.trans hx393_1); injection ea_ with ea_ en_ ec_; subst ea_; subst ec_; clear en_)); try go_wp2_with (first | (go_at_call 84; (with_reducible refine (impl_partsOf.calls k ((rd_T49 l0 (ji2)).f0) t392 _ A5.out).mono ?_); rintro e w' ⟨rfl, ⟨nd, rfl⟩⟩; (try exact dw_); have p393 : 0 ≤ ((ji2) : Int) := of_decide_eq_true az_; have q393 : (ji2) < (l0.length : Int) := of_decide_eq_true az_; obtain ⟨ad393, A393_1, c393_1, e393, hx393_0, hx393_1, hl393_1, hi393_1⟩ := at_T49 (Kd.V_reads' HO0.out).2.2 (ji2) p393 q393; obtain rfl : ad391 = ad393 := (by injection e393); obtain ⟨ce393, hce393, hMe393, hcc393⟩ := Kd.V_get HO0.out z49 (ji2) p393 (by first | exact q393 | exact of_decide_eq_true az_ | (have e_ := (Kd.V_reads' HO0.out).1; omega)); obtain ⟨ua393_1, uc393_1, rfl, ul393_1, ge393_1⟩ := k49_openF hMe393; have hv393_1 := hcc393 1 _ rfl; rw [add_field _ _ 1 (by omega)] at hv393_1; replace hv393_1 := Option.some.inj (hv393_1.symm.trans hx393_1); injection hv393_1 with hva_ hvn_ hvc_; rw [hva_] at ge393_1; rw [hvc_] at ul393_1; have HL393_1 := Aside0.mk (show Kd.V (Kd.int .i64) 3 _ w.heap.size _ _ ((rd_T49 l0 (ji2)).f1) from Kd.V_mk ul393_1 ge393_1); clear hva_ hvn_ hvc_ ge393_1 ul393_1; clear hcc393 hce393; have HR393_1 := Aside0.mk hi393_1; have HC393_1 := Aside0.mk hl393_1; clear hi393_1 hl393_1; replace p393 := eq_true p393; replace q393 := eq_true q393; have ea_ := Option.some.inj (hx391_1.symm.trans hx393_1); injection ea_ with ea_ en_ ec_; subst ea_; subst ec_; clear en_)))
    go_ret3
    exact ⟨_, _, by first | rfl | (simp [errW_none, errW_some] <;> rfl) | (simp only [← hji2]; first | rfl | (simp [errW_none, errW_some] <;> rfl)) | (simp [*, errW_none, errW_some] <;> rfl), Kd.V_nil _ _ _ _ _, Kd.V_nil _ _ _ _ _, bz_⟩
   ·rw [if_neg c6] at H
    have c6b0 := q3_ c6
    have c6b1 := q4_ c6
    by_cases c7 : t392 = 1
    ·rw [if_pos c7] at H
     have c7b0 := q1_ c7
     have c7b1 := q2_ c7
     clear c7
     have c8b0 := eq_true (of_decide_eq_true az_ : 0 ≤ (ji2))
     by_cases c9 : (ji2) ≤ (l0.length : Int)
     ·rw [if_pos c9] at H
      have c9b0 := eq_true c9
      have c9b1 := decide_eq_true c9
      clear c9
      obtain ⟨y395, hy395⟩ : ∃ y_ : List (S49), y_ = (l0.take ((ji2) : Int).toNat) := ⟨_, rfl⟩
      replace H : (some ((rd_T49 l0 (ji2)).f0, y395, ([] : List (S49)))) = some (r1, r2, r3) := yz_ hy395 H
      have Ny395 := Aside0.mk hy395
      clear hy395
      simp only [Option.some.injEq, Prod.mk.injEq] at H
      obtain ⟨rfl, rfl, rfl⟩ := H
      have p391 : 0 ≤ ((ji2) : Int) := of_decide_eq_true az_
      have q391 : (ji2) < (l0.length : Int) := of_decide_eq_true az_
      obtain ⟨ad391, A391_1, c391_1, e391, hx391_0, hx391_1, hl391_1, hi391_1⟩ := at_T49 (Kd.V_reads' HO0.out).2.2 (ji2) p391 q391
      cases e391
      obtain ⟨ce391, hce391, hMe391, hcc391⟩ := Kd.V_get HO0.out z49 (ji2) p391 (by first | exact q391 | exact of_decide_eq_true az_ | (have e_ := (Kd.V_reads' HO0.out).1; omega))
      obtain ⟨ua391_1, uc391_1, rfl, ul391_1, ge391_1⟩ := k49_openF hMe391
      have hv391_1 := hcc391 1 _ rfl
      rw [add_field _ _ 1 (by omega)] at hv391_1
      replace hv391_1 := Option.some.inj (hv391_1.symm.trans hx391_1)
      injection hv391_1 with hva_ hvn_ hvc_
      rw [hva_] at ge391_1
      rw [hvc_] at ul391_1
      have HL391_1 := Aside0.mk (show Kd.V (Kd.int .i64) 3 _ w.heap.size _ _ ((rd_T49 l0 (ji2)).f1) from Kd.V_mk ul391_1 ge391_1)
      clear hva_ hvn_ hvc_ ge391_1 ul391_1
      clear hcc391 hce391
      have HR391_1 := Aside0.mk hi391_1
      have HC391_1 := Aside0.mk hl391_1
      clear hi391_1 hl391_1
      replace p391 := eq_true p391
      replace q391 := eq_true q391
      go_enter Try.func95, Try.ntmps95
      go_wp2_with (first | (go_at_call 84; (with_reducible refine (impl_partsOf.calls k ((rd_T49 l0 (ji2)).f0) t392 _ A5.out).mono ?_); rintro e w' ⟨rfl, ⟨nd, rfl⟩⟩; (try exact dw_); have p394 : 0 ≤ ((ji2) : Int) := of_decide_eq_true az_; have q394 : (ji2) < (l0.length : Int) := of_decide_eq_true az_; obtain ⟨ad394, A394_1, c394_1, e394, hx394_0, hx394_1, hl394_1, hi394_1⟩ := at_T49 (Kd.V_reads' HO0.out).2.2 (ji2) p394 q394; obtain rfl : ad391 = ad394 := (by injection e394); obtain ⟨ce394, hce394, hMe394, hcc394⟩ := Kd.V_get HO0.out z49 (ji2) p394 (by first | exact q394 | exact of_decide_eq_true az_ | (have e_ := (Kd.V_reads' HO0.out).1; omega)); obtain ⟨ua394_1, uc394_1, rfl, ul394_1, ge394_1⟩ := k49_openF hMe394; have hv394_1 := hcc394 1 _ rfl; rw [add_field _ _ 1 (by omega)] at hv394_1; replace hv394_1 := Option.some.inj (hv394_1.symm.trans hx394_1); injection hv394_1 with hva_ hvn_ hvc_; rw [hva_] at ge394_1; rw [hvc_] at ul394_1; have HL394_1 := Aside0.mk (show Kd.V (Kd.int .i64) 3 _ w.heap.size _ _ ((rd_T49 l0 (ji2)).f1) from Kd.V_mk ul394_1 ge394_1); clear hva_ hvn_ hvc_ ge394_1 ul394_1; clear hcc394 hce394; have HR394_1 := Aside0.mk hi394_1; have HC394_1 := Aside0.mk hl394_1; clear hi394_1 hl394_1; replace p394 := eq_true p394; replace q394 := eq_true q394; have ea_ := Option.some.inj (hx391_1.symm.trans hx394_1); injection ea_ with ea_ en_ ec_; subst ea_; subst ec_; clear en_; have q10 : ((ji2) : Int) ≤ ((l0.length : Int) : Int) := of_decide_eq_true az_; obtain ⟨i010, hi010, _, hsz10, _⟩ := info_parts info49; have hroom10 : l0.length ≤ c0 := (Kd.V_reads' HO0.out).2.1; have hC10 : Kd.F k49 _ _ (some ad391) l0.length l0 := (Kd.V_at (base := w.heap.size) HO0.out).2.2; have hcut10 := cut_to (P := Try.prog) 25 49 .i64 Try.underlying25 hi010 (some ad391) l0.length c0 (ji2) (of_decide_eq_true az_) q10 hroom10; have hr10 := Kd.F_take (m := ((ji2) : Int).toNat) hC10 (by omega); have hy10 : y395.length = ((ji2) : Int).toNat := (by rw [Ny395.out, List.length_take]; omega); rw [← Ny395.out] at hr10; rw [← hy10] at hcut10; have HO399 := Aside0.mk (show Kd.V k49 49 _ w.heap.size _ (.slice (some ad391) y395.length c0) y395 from Kd.V_mk (by omega) hr10); have HC399 := Aside0.mk (show y395.length ≤ c0 from by omega); clear hr10 hC10 hroom10 hi010 hsz10; have KY10 := Aside0.mk hy10; clear hy10; replace q10 := eq_true q10))
      repeat (go_quiet (first | (go_at_call 84; (with_reducible refine (impl_partsOf.calls k ((rd_T49 l0 (ji2)).f0) t392 _ A5.out).mono ?_); rintro e w' ⟨rfl, ⟨nd, rfl⟩⟩; (try exact dw_); have p394 : 0 ≤ ((ji2) : Int) := of_decide_eq_true az_; have q394 : (ji2) < (l0.length : Int) := of_decide_eq_true az_; obtain ⟨ad394, A394_1, c394_1, e394, hx394_0, hx394_1, hl394_1, hi394_1⟩ := at_T49 (Kd.V_reads' HO0.out).2.2 (ji2) p394 q394; obtain rfl : ad391 = ad394 := (by injection e394); obtain ⟨ce394, hce394, hMe394, hcc394⟩ := Kd.V_get HO0.out z49 (ji2) p394 (by first | exact q394 | exact of_decide_eq_true az_ | (have e_ := (Kd.V_reads' HO0.out).1; omega)); obtain ⟨ua394_1, uc394_1, rfl, ul394_1, ge394_1⟩ := k49_openF hMe394; have hv394_1 := hcc394 1 _ rfl; rw [add_field _ _ 1 (by omega)] at hv394_1; replace hv394_1 := Option.some.inj (hv394_1.symm.trans hx394_1); injection hv394_1 with hva_ hvn_ hvc_; rw [hva_] at ge394_1; rw [hvc_] at ul394_1; have HL394_1 := Aside0.mk (show Kd.V (Kd.int .i64) 3 _ w.heap.size _ _ ((rd_T49 l0 (ji2)).f1) from Kd.V_mk ul394_1 ge394_1); clear hva_ hvn_ hvc_ ge394_1 ul394_1; clear hcc394 hce394; have HR394_1 := Aside0.mk hi394_1; have HC394_1 := Aside0.mk hl394_1; clear hi394_1 hl394_1; replace p394 := eq_true p394; replace q394 := eq_true q394; have ea_ := Option.some.inj (hx391_1.symm.trans hx394_1); injection ea_ with ea_ en_ ec_; subst ea_; subst ec_; clear en_; have q10 : ((ji2) : Int) ≤ ((l0.length : Int) : Int) := of_decide_eq_true az_; obtain ⟨i010, hi010, _, hsz10, _⟩ := info_parts info49; have hroom10 : l0.length ≤ c0 := (Kd.V_reads' HO0.out).2.1; have hC10 : Kd.F k49 _ _ (some ad391) l0.length l0 := (Kd.V_at (base := w.heap.size) HO0.out).2.2; have hcut10 := cut_to (P := Try.prog) 25 49 .i64 Try.underlying25 hi010 (some ad391) l0.length c0 (ji2) (of_decide_eq_true az_) q10 hroom10; have hr10 := Kd.F_take (m := ((ji2) : Int).toNat) hC10 (by omega); have hy10 : y395.length = ((ji2) : Int).toNat := (by rw [Ny395.out, List.length_take]; omega); rw [← Ny395.out] at hr10; rw [← hy10] at hcut10; have HO399 := Aside0.mk (show Kd.V k49 49 _ w.heap.size _ (.slice (some ad391) y395.length c0) y395 from Kd.V_mk (by omega) hr10); have HC399 := Aside0.mk (show y395.length ≤ c0 from by omega); clear hr10 hC10 hroom10 hi010 hsz10; have KY10 := Aside0.mk hy10; clear hy10; replace q10 := eq_true q10)); try go_wp2_with (first | (go_at_call 84; (with_reducible refine (impl_partsOf.calls k ((rd_T49 l0 (ji2)).f0) t392 _ A5.out).mono ?_); rintro e w' ⟨rfl, ⟨nd, rfl⟩⟩; (try exact dw_); have p394 : 0 ≤ ((ji2) : Int) := of_decide_eq_true az_; have q394 : (ji2) < (l0.length : Int) := of_decide_eq_true az_; obtain ⟨ad394, A394_1, c394_1, e394, hx394_0, hx394_1, hl394_1, hi394_1⟩ := at_T49 (Kd.V_reads' HO0.out).2.2 (ji2) p394 q394; obtain rfl : ad391 = ad394 := (by injection e394); obtain ⟨ce394, hce394, hMe394, hcc394⟩ := Kd.V_get HO0.out z49 (ji2) p394 (by first | exact q394 | exact of_decide_eq_true az_ | (have e_ := (Kd.V_reads' HO0.out).1; omega)); obtain ⟨ua394_1, uc394_1, rfl, ul394_1, ge394_1⟩ := k49_openF hMe394; have hv394_1 := hcc394 1 _ rfl; rw [add_field _ _ 1 (by omega)] at hv394_1; replace hv394_1 := Option.some.inj (hv394_1.symm.trans hx394_1); injection hv394_1 with hva_ hvn_ hvc_; rw [hva_] at ge394_1; rw [hvc_] at ul394_1; have HL394_1 := Aside0.mk (show Kd.V (Kd.int .i64) 3 _ w.heap.size _ _ ((rd_T49 l0 (ji2)).f1) from Kd.V_mk ul394_1 ge394_1); clear hva_ hvn_ hvc_ ge394_1 ul394_1; clear hcc394 hce394; have HR394_1 := Aside0.mk hi394_1; have HC394_1 := Aside0.mk hl394_1; clear hi394_1 hl394_1; replace p394 := eq_true p394; replace q394 := eq_true q394; have ea_ := Option.some.inj (hx391_1.symm.trans hx394_1); injection ea_ with ea_ en_ ec_; subst ea_; subst ec_; clear en_; have q10 : ((ji2) : Int) ≤ ((l0.length : Int) : Int) := of_decide_eq_true az_; obtain ⟨i010, hi010, _, hsz10, _⟩ := info_parts info49; have hroom10 : l0.length ≤ c0 := (Kd.V_reads' HO0.out).2.1; have hC10 : Kd.F k49 _ _ (some ad391) l0.length l0 := (Kd.V_at (base := w.heap.size) HO0.out).2.2; have hcut10 := cut_to (P := Try.prog) 25 49 .i64 Try.underlying25 hi010 (some ad391) l0.length c0 (ji2) (of_decide_eq_true az_) q10 hroom10; have hr10 := Kd.F_take (m := ((ji2) : Int).toNat) hC10 (by omega); have hy10 : y395.length = ((ji2) : Int).toNat := (by rw [Ny395.out, List.length_take]; omega); rw [← Ny395.out] at hr10; rw [← hy10] at hcut10; have HO399 := Aside0.mk (show Kd.V k49 49 _ w.heap.size _ (.slice (some ad391) y395.length c0) y395 from Kd.V_mk (by omega) hr10); have HC399 := Aside0.mk (show y395.length ≤ c0 from by omega); clear hr10 hC10 hroom10 hi010 hsz10; have KY10 := Aside0.mk hy10; clear hy10; replace q10 := eq_true q10)))
      go_ret3
      exact ⟨_, _, by first | rfl | (simp [errW_none, errW_some] <;> rfl) | (simp only [← hji2]; first | rfl | (simp [errW_none, errW_some] <;> rfl)) | (simp [*, errW_none, errW_some] <;> rfl), vz_ HO399.out, Kd.V_nil _ _ _ _ _, bz_⟩
     ·rw [if_neg c9] at H
      exact absurd H (by simp)
    ·rw [if_neg c7] at H
     have c7b0 := q3_ c7
     have c7b1 := q4_ c7
     replace H := Option.bind_eq_some_iff.mp H
     obtain ⟨⟨t400, t401⟩, A110, H⟩ := H
     try dsimp only at H
     have A11 := Aside0.mk A110
     clear A110
     by_cases c12 : (ji2) < (t400.length : Int)
     ·rw [if_pos c12] at H
      have c12b0 := decide_eq_true c12
      clear c12
      by_cases c13 : 0 < ((rd_L1 t400 (ji2)).length : Int)
      ·rw [if_pos c13] at H
       have c13b0 := decide_eq_true c13
       have c13b1 : decide (0 < (rd_L1 t400 (ji2)).length) = true := decide_eq_true (by omega)
       clear c13
       obtain ⟨ji14, hji14⟩ : ∃ j_ : Int, (wrap64 ((rd (rd_L1 t400 (ji2)) 0) + 1)) = j_ := ⟨_, rfl⟩
       replace H : (if 0 ≤ (ji14) then (if (ji14) ≤ (l0.length : Int) then (if (ji14) ≤ (ji2) then (if (ji2) ≤ (l0.length : Int) then (some ((rd_T49 l0 (ji2)).f0, (l0.take ((ji14) : Int).toNat), ((l0.take ((ji2) : Int).toNat).drop ((ji14) : Int).toNat))) else (none)) else (none)) else (none)) else (none)) = some (r1, r2, r3) := jz_ hji14 H
       (try rw [hji14] at A5)
       (try rw [hji14] at A11)
       have hji14w : (IntKind.i64.wrap ((rd (rd_L1 t400 (ji2)) 0) + 1)) = ji14 := (i64_w _).trans hji14
       by_cases c15 : 0 ≤ (ji14)
       ·rw [if_pos c15] at H
        have c15b0 := eq_true c15
        have c15b1 := decide_eq_true c15
        clear c15
        by_cases c16 : (ji14) ≤ (l0.length : Int)
        ·rw [if_pos c16] at H
         have c16b0 := eq_true c16
         have c16b1 := decide_eq_true c16
         clear c16
         obtain ⟨y407, hy407⟩ : ∃ y_ : List (S49), y_ = (l0.take ((ji14) : Int).toNat) := ⟨_, rfl⟩
         replace H : (if (ji14) ≤ (ji2) then (if (ji2) ≤ (l0.length : Int) then (some ((rd_T49 l0 (ji2)).f0, y407, ((l0.take ((ji2) : Int).toNat).drop ((ji14) : Int).toNat))) else (none)) else (none)) = some (r1, r2, r3) := yz_ hy407 H
         have Ny407 := Aside0.mk hy407
         clear hy407
         have c17b0 := eq_true (of_decide_eq_true az_ : 0 ≤ (ji14))
         by_cases c18 : (ji14) ≤ (ji2)
         ·rw [if_pos c18] at H
          have c18b0 := eq_true c18
          have c18b1 := decide_eq_true c18
          clear c18
          by_cases c19 : (ji2) ≤ (l0.length : Int)
          ·rw [if_pos c19] at H
           have c19b0 := eq_true c19
           have c19b1 := decide_eq_true c19
           clear c19
           obtain ⟨y412, hy412⟩ : ∃ y_ : List (S49), y_ = ((l0.take ((ji2) : Int).toNat).drop ((ji14) : Int).toNat) := ⟨_, rfl⟩
           replace H : (some ((rd_T49 l0 (ji2)).f0, y407, y412)) = some (r1, r2, r3) := yz_ hy412 H
           have Ny412 := Aside0.mk hy412
           clear hy412
           simp only [Option.some.injEq, Prod.mk.injEq] at H
           obtain ⟨rfl, rfl, rfl⟩ := H
           have p391 : 0 ≤ ((ji2) : Int) := of_decide_eq_true az_
           have q391 : (ji2) < (l0.length : Int) := of_decide_eq_true az_
           obtain ⟨ad391, A391_1, c391_1, e391, hx391_0, hx391_1, hl391_1, hi391_1⟩ := at_T49 (Kd.V_reads' HO0.out).2.2 (ji2) p391 q391
           cases e391
           obtain ⟨ce391, hce391, hMe391, hcc391⟩ := Kd.V_get HO0.out z49 (ji2) p391 (by first | exact q391 | exact of_decide_eq_true az_ | (have e_ := (Kd.V_reads' HO0.out).1; omega))
           obtain ⟨ua391_1, uc391_1, rfl, ul391_1, ge391_1⟩ := k49_openF hMe391
           have hv391_1 := hcc391 1 _ rfl
           rw [add_field _ _ 1 (by omega)] at hv391_1
           replace hv391_1 := Option.some.inj (hv391_1.symm.trans hx391_1)
           injection hv391_1 with hva_ hvn_ hvc_
           rw [hva_] at ge391_1
           rw [hvc_] at ul391_1
           have HL391_1 := Aside0.mk (show Kd.V (Kd.int .i64) 3 _ w.heap.size _ _ ((rd_T49 l0 (ji2)).f1) from Kd.V_mk ul391_1 ge391_1)
           clear hva_ hvn_ hvc_ ge391_1 ul391_1
           clear hcc391 hce391
           have HR391_1 := Aside0.mk hi391_1
           have HC391_1 := Aside0.mk hl391_1
           clear hi391_1 hl391_1
           replace p391 := eq_true p391
           replace q391 := eq_true q391
           go_enter Try.func95, Try.ntmps95
           go_wp2_with (first | (go_at_call 84; (with_reducible refine (impl_partsOf.calls k ((rd_T49 l0 (ji2)).f0) t392 _ A5.out).mono ?_); rintro e w' ⟨rfl, ⟨nd, rfl⟩⟩; (try exact dw_)) | (go_at_call 51; (with_reducible refine (impl_parts.calls k _ _ l0 t400 t401 _ ?side1 ?side2 A11.out).mono ?_); (case side1 => repeat (first | exact (Kd.V_reads' HO0.out).2.2 | (with_reducible refine Kd.C_alloc ?_ _) | (with_reducible refine Kd.C_drewN ?_ _) | (with_reducible refine Kd.C_drew ?_))); (case side2 => exact (Kd.V_reads' HO0.out).2.1); rintro e w20 ⟨v402, rfl, ho0, hb⟩; have n0_ := Aside0.mk (Kd.V_elder' (vz_ HO0.out) (Kd.S_base ho0) hb); have n1_ := Aside0.mk (Kd.V_elder' (vz_ HL391_1.out) (Kd.S_base ho0) hb); have n2_ := Aside0.mk (Kd.S_lower (Kd.S_newM (M := fun k_ => (w.heap.size ≤ k_)) ho0 (below_size bz_) (fun k_ h_ => h_)) (below_size bz_)); have n3_ := Aside0.mk (Kd.C_below (by repeat (first | (with_reducible exact HR391_1.out) | (with_reducible refine Kd.C_alloc ?_ _) | (with_reducible refine Kd.C_drewN ?_ _) | (with_reducible refine Kd.C_drew ?_) | exact HR391_1.out)) hb); have n4_ := Aside0.mk (below_step bz_ hb); clear HO0; clear HL391_1; clear HR391_1; clear HB; have HO0 := n0_; have HL391_1 := n1_; have HO403 := n2_; have HR391_1 := n3_; have HB := n4_; clear n0_ n1_ n2_ n3_ n4_; (try clear ho0); obtain ⟨Ao21, co21, eo21⟩ := Kd.S_slice HO403.out; subst eo21; have p404 : 0 ≤ ((ji2) : Int) := of_decide_eq_true az_; have q404 : (ji2) < (t400.length : Int) := of_decide_eq_true az_; obtain ⟨ad404, A404_0, c404_0, e404, hx404_0, hl404_0, hi404_0⟩ := at_L1 (Kd.S_reads' HO403.out).2.2 (ji2) p404 q404; cases e404; obtain ⟨ce404, hce404, hMe404, hcc404⟩ := Kd.S_get HO403.out [] (ji2) p404 (by first | exact q404 | exact of_decide_eq_true az_ | (have e_ := (Kd.S_reads' HO403.out).1; omega)); obtain ⟨ve404_0, rfl, ge404_0⟩ := hMe404; have hv404_0 := hcc404 0 _ rfl; rw [Nat.add_zero, show ((Kd.slice 3 (Kd.int .i64))).sz = 1 from rfl, Nat.mul_one] at hv404_0; replace hv404_0 := Option.some.inj (hv404_0.symm.trans hx404_0); rw [hv404_0] at ge404_0; have HL404_0 := Aside0.mk (show Kd.R (Kd.int .i64) 3 _ _ _ _ (rd_L1 t400 (ji2)) from ge404_0); clear hv404_0 ge404_0; clear hcc404 hce404; have HR404_0 := Aside0.mk hi404_0; have HC404_0 := Aside0.mk hl404_0; clear hi404_0 hl404_0; replace p404 := eq_true p404; replace q404 := eq_true q404; have p405 : 0 ≤ (0 : Int) := (by omega); have q405 : 0 < ((rd_L1 t400 (ji2)).length : Int) := of_decide_eq_true az_; obtain ⟨ad405, e405, hx405_0⟩ := Kd.at_int (by repeat (first | (with_reducible exact HR404_0.out) | (with_reducible refine Kd.C_alloc ?_ _) | (with_reducible refine Kd.C_drewN ?_ _) | (with_reducible refine Kd.C_drew ?_) | exact HR404_0.out)) 0 p405 q405; cases e405; have qi405 : (0 < (rd_L1 t400 (ji2)).length) = True := eq_true (by omega); (try rw [show ((0 : Int)).toNat = 0 from rfl] at hx405_0); (try rw [Addr.add_zero'] at hx405_0); replace p405 := eq_true p405; replace q405 := eq_true q405; have p406 : 0 ≤ ((ji2) : Int) := of_decide_eq_true az_; have q406 : (ji2) < (l0.length : Int) := of_decide_eq_true az_; obtain ⟨ad406, A406_1, c406_1, e406, hx406_0, hx406_1, hl406_1, hi406_1⟩ := at_T49 (Kd.V_reads' HO0.out).2.2 (ji2) p406 q406; obtain rfl : ad391 = ad406 := (by injection e406); obtain ⟨ce406, hce406, hMe406, hcc406⟩ := Kd.V_get HO0.out z49 (ji2) p406 (by first | exact q406 | exact of_decide_eq_true az_ | (have e_ := (Kd.V_reads' HO0.out).1; omega)); obtain ⟨ua406_1, uc406_1, rfl, ul406_1, ge406_1⟩ := k49_openF hMe406; have hv406_1 := hcc406 1 _ rfl; rw [add_field _ _ 1 (by omega)] at hv406_1; replace hv406_1 := Option.some.inj (hv406_1.symm.trans hx406_1); injection hv406_1 with hva_ hvn_ hvc_; rw [hva_] at ge406_1; rw [hvc_] at ul406_1; have HL406_1 := Aside0.mk (show Kd.V (Kd.int .i64) 3 _ w.heap.size _ _ ((rd_T49 l0 (ji2)).f1) from Kd.V_mk ul406_1 ge406_1); clear hva_ hvn_ hvc_ ge406_1 ul406_1; clear hcc406 hce406; have HR406_1 := Aside0.mk hi406_1; have HC406_1 := Aside0.mk hl406_1; clear hi406_1 hl406_1; replace p406 := eq_true p406; replace q406 := eq_true q406; have q22 : ((ji14) : Int) ≤ ((l0.length : Int) : Int) := of_decide_eq_true az_; obtain ⟨i022, hi022, _, hsz22, _⟩ := info_parts info49; have hroom22 : l0.length ≤ c0 := (Kd.V_reads' HO0.out).2.1; have hC22 : Kd.F k49 _ _ (some ad391) l0.length l0 := (Kd.V_at (base := w.heap.size) HO0.out).2.2; have hcut22 := cut_to (P := Try.prog) 25 49 .i64 Try.underlying25 hi022 (some ad391) l0.length c0 (ji14) (of_decide_eq_true az_) q22 hroom22; have hr22 := Kd.F_take (m := ((ji14) : Int).toNat) hC22 (by omega); have hy22 : y407.length = ((ji14) : Int).toNat := (by rw [Ny407.out, List.length_take]; omega); rw [← Ny407.out] at hr22; rw [← hy22] at hcut22; have HO411 := Aside0.mk (show Kd.V k49 49 _ w.heap.size _ (.slice (some ad391) y407.length c0) y407 from Kd.V_mk (by omega) hr22); have HC411 := Aside0.mk (show y407.length ≤ c0 from by omega); clear hr22 hC22 hroom22 hi022 hsz22; have KY22 := Aside0.mk hy22; clear hy22; replace q22 := eq_true q22; have q23 : ((ji2) : Int) ≤ ((l0.length : Int) : Int) := of_decide_eq_true az_; obtain ⟨i023, hi023, _, hsz23, _⟩ := info_parts info49; have hroom23 : l0.length ≤ c0 := (Kd.V_reads' HO0.out).2.1; have hC23 : Kd.F k49 _ _ (some ad391) l0.length l0 := (Kd.V_at (base := w.heap.size) HO0.out).2.2; have ql23 : ((ji14) : Int) ≤ ((ji2) : Int) := of_decide_eq_true az_; have q023 : (0 : Int) ≤ ((ji14) : Int) := of_decide_eq_true az_; have hcut23 := cut_mid (P := Try.prog) 25 49 .i64 .i64 Try.underlying25 hi023 2 hsz23 (some ad391) l0.length c0 (ji14) (ji2) q023 ql23 q23 hroom23; have hr23 := Kd.F_mid (lo := ((ji14) : Int).toNat) (hi := ((ji2) : Int).toNat) (c := c0) hC23 (by omega) (by omega) hroom23; obtain ⟨A23, hA23⟩ : ∃ A1, A1 = (if c0 = ((ji14) : Int).toNat then (some ad391) else ((some ad391) : Option Addr).map (·.add (((ji14) : Int).toNat * 2))) := ⟨_, rfl⟩; obtain ⟨c23, hc23⟩ : ∃ c1, c1 = c0 - ((ji14) : Int).toNat := ⟨_, rfl⟩; have hy23 : y412.length = ((ji2) : Int).toNat - ((ji14) : Int).toNat := (by rw [Ny412.out, List.length_drop, List.length_take] <;> omega); rw [show ((l0).take ((ji2) : Int).toNat).drop ((ji14) : Int).toNat = y412 from Ny412.out.symm] at hr23; replace hr23 : Kd.F k49 _ _ A23 y412.length y412 := (by rw [hA23]; exact hr23); rw [← hy23, ← hA23, ← hc23] at hcut23; have HO416 := Aside0.mk (show Kd.V k49 49 _ w.heap.size _ (.slice A23 y412.length c23) y412 from Kd.V_mk (by rw [hy23, hc23]; exact Nat.sub_le_sub_right (Nat.le_trans (by omega) hroom23) _) hr23); have HC416 := Aside0.mk (show y412.length ≤ c23 from by rw [hy23, hc23]; exact Nat.sub_le_sub_right (Nat.le_trans (by omega) hroom23) _); clear hr23 hC23 hroom23 hi023 hsz23 hc23; have KY23 := Aside0.mk hy23; have KA23 := Aside0.mk hA23; clear hy23 hA23; replace q23 := eq_true q23))
           repeat (go_quiet (first | (go_at_call 84; (with_reducible refine (impl_partsOf.calls k ((rd_T49 l0 (ji2)).f0) t392 _ A5.out).mono ?_); rintro e w' ⟨rfl, ⟨nd, rfl⟩⟩; (try exact dw_)) | (go_at_call 51; (with_reducible refine (impl_parts.calls k _ _ l0 t400 t401 _ ?side1 ?side2 A11.out).mono ?_); (case side1 => repeat (first | exact (Kd.V_reads' HO0.out).2.2 | (with_reducible refine Kd.C_alloc ?_ _) | (with_reducible refine Kd.C_drewN ?_ _) | (with_reducible refine Kd.C_drew ?_))); (case side2 => exact (Kd.V_reads' HO0.out).2.1); rintro e w20 ⟨v402, rfl, ho0, hb⟩; have n0_ := Aside0.mk (Kd.V_elder' (vz_ HO0.out) (Kd.S_base ho0) hb); have n1_ := Aside0.mk (Kd.V_elder' (vz_ HL391_1.out) (Kd.S_base ho0) hb); have n2_ := Aside0.mk (Kd.S_lower (Kd.S_newM (M := fun k_ => (w.heap.size ≤ k_)) ho0 (below_size bz_) (fun k_ h_ => h_)) (below_size bz_)); have n3_ := Aside0.mk (Kd.C_below (by repeat (first | (with_reducible exact HR391_1.out) | (with_reducible refine Kd.C_alloc ?_ _) | (with_reducible refine Kd.C_drewN ?_ _) | (with_reducible refine Kd.C_drew ?_) | exact HR391_1.out)) hb); have n4_ := Aside0.mk (below_step bz_ hb); clear HO0; clear HL391_1; clear HR391_1; clear HB; have HO0 := n0_; have HL391_1 := n1_; have HO403 := n2_; have HR391_1 := n3_; have HB := n4_; clear n0_ n1_ n2_ n3_ n4_; (try clear ho0); obtain ⟨Ao21, co21, eo21⟩ := Kd.S_slice HO403.out; subst eo21; have p404 : 0 ≤ ((ji2) : Int) := of_decide_eq_true az_; have q404 : (ji2) < (t400.length : Int) := of_decide_eq_true az_; obtain ⟨ad404, A404_0, c404_0, e404, hx404_0, hl404_0, hi404_0⟩ := at_L1 (Kd.S_reads' HO403.out).2.2 (ji2) p404 q404; cases e404; obtain ⟨ce404, hce404, hMe404, hcc404⟩ := Kd.S_get HO403.out [] (ji2) p404 (by first | exact q404 | exact of_decide_eq_true az_ | (have e_ := (Kd.S_reads' HO403.out).1; omega)); obtain ⟨ve404_0, rfl, ge404_0⟩ := hMe404; have hv404_0 := hcc404 0 _ rfl; rw [Nat.add_zero, show ((Kd.slice 3 (Kd.int .i64))).sz = 1 from rfl, Nat.mul_one] at hv404_0; replace hv404_0 := Option.some.inj (hv404_0.symm.trans hx404_0); rw [hv404_0] at ge404_0; have HL404_0 := Aside0.mk (show Kd.R (Kd.int .i64) 3 _ _ _ _ (rd_L1 t400 (ji2)) from ge404_0); clear hv404_0 ge404_0; clear hcc404 hce404; have HR404_0 := Aside0.mk hi404_0; have HC404_0 := Aside0.mk hl404_0; clear hi404_0 hl404_0; replace p404 := eq_true p404; replace q404 := eq_true q404; have p405 : 0 ≤ (0 : Int) := (by omega); have q405 : 0 < ((rd_L1 t400 (ji2)).length : Int) := of_decide_eq_true az_; obtain ⟨ad405, e405, hx405_0⟩ := Kd.at_int (by repeat (first | (with_reducible exact HR404_0.out) | (with_reducible refine Kd.C_alloc ?_ _) | (with_reducible refine Kd.C_drewN ?_ _) | (with_reducible refine Kd.C_drew ?_) | exact HR404_0.out)) 0 p405 q405; cases e405; have qi405 : (0 < (rd_L1 t400 (ji2)).length) = True := eq_true (by omega); (try rw [show ((0 : Int)).toNat = 0 from rfl] at hx405_0); (try rw [Addr.add_zero'] at hx405_0); replace p405 := eq_true p405; replace q405 := eq_true q405; have p406 : 0 ≤ ((ji2) : Int) := of_decide_eq_true az_; have q406 : (ji2) < (l0.length : Int) := of_decide_eq_true az_; obtain ⟨ad406, A406_1, c406_1, e406, hx406_0, hx406_1, hl406_1, hi406_1⟩ := at_T49 (Kd.V_reads' HO0.out).2.2 (ji2) p406 q406; obtain rfl : ad391 = ad406 := (by injection e406); obtain ⟨ce406, hce406, hMe406, hcc406⟩ := Kd.V_get HO0.out z49 (ji2) p406 (by first | exact q406 | exact of_decide_eq_true az_ | (have e_ := (Kd.V_reads' HO0.out).1; omega)); obtain ⟨ua406_1, uc406_1, rfl, ul406_1, ge406_1⟩ := k49_openF hMe406; have hv406_1 := hcc406 1 _ rfl; rw [add_field _ _ 1 (by omega)] at hv406_1; replace hv406_1 := Option.some.inj (hv406_1.symm.trans hx406_1); injection hv406_1 with hva_ hvn_ hvc_; rw [hva_] at ge406_1; rw [hvc_] at ul406_1; have HL406_1 := Aside0.mk (show Kd.V (Kd.int .i64) 3 _ w.heap.size _ _ ((rd_T49 l0 (ji2)).f1) from Kd.V_mk ul406_1 ge406_1); clear hva_ hvn_ hvc_ ge406_1 ul406_1; clear hcc406 hce406; have HR406_1 := Aside0.mk hi406_1; have HC406_1 := Aside0.mk hl406_1; clear hi406_1 hl406_1; replace p406 := eq_true p406; replace q406 := eq_true q406; have q22 : ((ji14) : Int) ≤ ((l0.length : Int) : Int) := of_decide_eq_true az_; obtain ⟨i022, hi022, _, hsz22, _⟩ := info_parts info49; have hroom22 : l0.length ≤ c0 := (Kd.V_reads' HO0.out).2.1; have hC22 : Kd.F k49 _ _ (some ad391) l0.length l0 := (Kd.V_at (base := w.heap.size) HO0.out).2.2; have hcut22 := cut_to (P := Try.prog) 25 49 .i64 Try.underlying25 hi022 (some ad391) l0.length c0 (ji14) (of_decide_eq_true az_) q22 hroom22; have hr22 := Kd.F_take (m := ((ji14) : Int).toNat) hC22 (by omega); have hy22 : y407.length = ((ji14) : Int).toNat := (by rw [Ny407.out, List.length_take]; omega); rw [← Ny407.out] at hr22; rw [← hy22] at hcut22; have HO411 := Aside0.mk (show Kd.V k49 49 _ w.heap.size _ (.slice (some ad391) y407.length c0) y407 from Kd.V_mk (by omega) hr22); have HC411 := Aside0.mk (show y407.length ≤ c0 from by omega); clear hr22 hC22 hroom22 hi022 hsz22; have KY22 := Aside0.mk hy22; clear hy22; replace q22 := eq_true q22; have q23 : ((ji2) : Int) ≤ ((l0.length : Int) : Int) := of_decide_eq_true az_; obtain ⟨i023, hi023, _, hsz23, _⟩ := info_parts info49; have hroom23 : l0.length ≤ c0 := (Kd.V_reads' HO0.out).2.1; have hC23 : Kd.F k49 _ _ (some ad391) l0.length l0 := (Kd.V_at (base := w.heap.size) HO0.out).2.2; have ql23 : ((ji14) : Int) ≤ ((ji2) : Int) := of_decide_eq_true az_; have q023 : (0 : Int) ≤ ((ji14) : Int) := of_decide_eq_true az_; have hcut23 := cut_mid (P := Try.prog) 25 49 .i64 .i64 Try.underlying25 hi023 2 hsz23 (some ad391) l0.length c0 (ji14) (ji2) q023 ql23 q23 hroom23; have hr23 := Kd.F_mid (lo := ((ji14) : Int).toNat) (hi := ((ji2) : Int).toNat) (c := c0) hC23 (by omega) (by omega) hroom23; obtain ⟨A23, hA23⟩ : ∃ A1, A1 = (if c0 = ((ji14) : Int).toNat then (some ad391) else ((some ad391) : Option Addr).map (·.add (((ji14) : Int).toNat * 2))) := ⟨_, rfl⟩; obtain ⟨c23, hc23⟩ : ∃ c1, c1 = c0 - ((ji14) : Int).toNat := ⟨_, rfl⟩; have hy23 : y412.length = ((ji2) : Int).toNat - ((ji14) : Int).toNat := (by rw [Ny412.out, List.length_drop, List.length_take] <;> omega); rw [show ((l0).take ((ji2) : Int).toNat).drop ((ji14) : Int).toNat = y412 from Ny412.out.symm] at hr23; replace hr23 : Kd.F k49 _ _ A23 y412.length y412 := (by rw [hA23]; exact hr23); rw [← hy23, ← hA23, ← hc23] at hcut23; have HO416 := Aside0.mk (show Kd.V k49 49 _ w.heap.size _ (.slice A23 y412.length c23) y412 from Kd.V_mk (by rw [hy23, hc23]; exact Nat.sub_le_sub_right (Nat.le_trans (by omega) hroom23) _) hr23); have HC416 := Aside0.mk (show y412.length ≤ c23 from by rw [hy23, hc23]; exact Nat.sub_le_sub_right (Nat.le_trans (by omega) hroom23) _); clear hr23 hC23 hroom23 hi023 hsz23 hc23; have KY23 := Aside0.mk hy23; have KA23 := Aside0.mk hA23; clear hy23 hA23; replace q23 := eq_true q23)); try go_wp2_with (first | (go_at_call 84; (with_reducible refine (impl_partsOf.calls k ((rd_T49 l0 (ji2)).f0) t392 _ A5.out).mono ?_); rintro e w' ⟨rfl, ⟨nd, rfl⟩⟩; (try exact dw_)) | (go_at_call 51; (with_reducible refine (impl_parts.calls k _ _ l0 t400 t401 _ ?side1 ?side2 A11.out).mono ?_); (case side1 => repeat (first | exact (Kd.V_reads' HO0.out).2.2 | (with_reducible refine Kd.C_alloc ?_ _) | (with_reducible refine Kd.C_drewN ?_ _) | (with_reducible refine Kd.C_drew ?_))); (case side2 => exact (Kd.V_reads' HO0.out).2.1); rintro e w20 ⟨v402, rfl, ho0, hb⟩; have n0_ := Aside0.mk (Kd.V_elder' (vz_ HO0.out) (Kd.S_base ho0) hb); have n1_ := Aside0.mk (Kd.V_elder' (vz_ HL391_1.out) (Kd.S_base ho0) hb); have n2_ := Aside0.mk (Kd.S_lower (Kd.S_newM (M := fun k_ => (w.heap.size ≤ k_)) ho0 (below_size bz_) (fun k_ h_ => h_)) (below_size bz_)); have n3_ := Aside0.mk (Kd.C_below (by repeat (first | (with_reducible exact HR391_1.out) | (with_reducible refine Kd.C_alloc ?_ _) | (with_reducible refine Kd.C_drewN ?_ _) | (with_reducible refine Kd.C_drew ?_) | exact HR391_1.out)) hb); have n4_ := Aside0.mk (below_step bz_ hb); clear HO0; clear HL391_1; clear HR391_1; clear HB; have HO0 := n0_; have HL391_1 := n1_; have HO403 := n2_; have HR391_1 := n3_; have HB := n4_; clear n0_ n1_ n2_ n3_ n4_; (try clear ho0); obtain ⟨Ao21, co21, eo21⟩ := Kd.S_slice HO403.out; subst eo21; have p404 : 0 ≤ ((ji2) : Int) := of_decide_eq_true az_; have q404 : (ji2) < (t400.length : Int) := of_decide_eq_true az_; obtain ⟨ad404, A404_0, c404_0, e404, hx404_0, hl404_0, hi404_0⟩ := at_L1 (Kd.S_reads' HO403.out).2.2 (ji2) p404 q404; cases e404; obtain ⟨ce404, hce404, hMe404, hcc404⟩ := Kd.S_get HO403.out [] (ji2) p404 (by first | exact q404 | exact of_decide_eq_true az_ | (have e_ := (Kd.S_reads' HO403.out).1; omega)); obtain ⟨ve404_0, rfl, ge404_0⟩ := hMe404; have hv404_0 := hcc404 0 _ rfl; rw [Nat.add_zero, show ((Kd.slice 3 (Kd.int .i64))).sz = 1 from rfl, Nat.mul_one] at hv404_0; replace hv404_0 := Option.some.inj (hv404_0.symm.trans hx404_0); rw [hv404_0] at ge404_0; have HL404_0 := Aside0.mk (show Kd.R (Kd.int .i64) 3 _ _ _ _ (rd_L1 t400 (ji2)) from ge404_0); clear hv404_0 ge404_0; clear hcc404 hce404; have HR404_0 := Aside0.mk hi404_0; have HC404_0 := Aside0.mk hl404_0; clear hi404_0 hl404_0; replace p404 := eq_true p404; replace q404 := eq_true q404; have p405 : 0 ≤ (0 : Int) := (by omega); have q405 : 0 < ((rd_L1 t400 (ji2)).length : Int) := of_decide_eq_true az_; obtain ⟨ad405, e405, hx405_0⟩ := Kd.at_int (by repeat (first | (with_reducible exact HR404_0.out) | (with_reducible refine Kd.C_alloc ?_ _) | (with_reducible refine Kd.C_drewN ?_ _) | (with_reducible refine Kd.C_drew ?_) | exact HR404_0.out)) 0 p405 q405; cases e405; have qi405 : (0 < (rd_L1 t400 (ji2)).length) = True := eq_true (by omega); (try rw [show ((0 : Int)).toNat = 0 from rfl] at hx405_0); (try rw [Addr.add_zero'] at hx405_0); replace p405 := eq_true p405; replace q405 := eq_true q405; have p406 : 0 ≤ ((ji2) : Int) := of_decide_eq_true az_; have q406 : (ji2) < (l0.length : Int) := of_decide_eq_true az_; obtain ⟨ad406, A406_1, c406_1, e406, hx406_0, hx406_1, hl406_1, hi406_1⟩ := at_T49 (Kd.V_reads' HO0.out).2.2 (ji2) p406 q406; obtain rfl : ad391 = ad406 := (by injection e406); obtain ⟨ce406, hce406, hMe406, hcc406⟩ := Kd.V_get HO0.out z49 (ji2) p406 (by first | exact q406 | exact of_decide_eq_true az_ | (have e_ := (Kd.V_reads' HO0.out).1; omega)); obtain ⟨ua406_1, uc406_1, rfl, ul406_1, ge406_1⟩ := k49_openF hMe406; have hv406_1 := hcc406 1 _ rfl; rw [add_field _ _ 1 (by omega)] at hv406_1; replace hv406_1 := Option.some.inj (hv406_1.symm.trans hx406_1); injection hv406_1 with hva_ hvn_ hvc_; rw [hva_] at ge406_1; rw [hvc_] at ul406_1; have HL406_1 := Aside0.mk (show Kd.V (Kd.int .i64) 3 _ w.heap.size _ _ ((rd_T49 l0 (ji2)).f1) from Kd.V_mk ul406_1 ge406_1); clear hva_ hvn_ hvc_ ge406_1 ul406_1; clear hcc406 hce406; have HR406_1 := Aside0.mk hi406_1; have HC406_1 := Aside0.mk hl406_1; clear hi406_1 hl406_1; replace p406 := eq_true p406; replace q406 := eq_true q406; have q22 : ((ji14) : Int) ≤ ((l0.length : Int) : Int) := of_decide_eq_true az_; obtain ⟨i022, hi022, _, hsz22, _⟩ := info_parts info49; have hroom22 : l0.length ≤ c0 := (Kd.V_reads' HO0.out).2.1; have hC22 : Kd.F k49 _ _ (some ad391) l0.length l0 := (Kd.V_at (base := w.heap.size) HO0.out).2.2; have hcut22 := cut_to (P := Try.prog) 25 49 .i64 Try.underlying25 hi022 (some ad391) l0.length c0 (ji14) (of_decide_eq_true az_) q22 hroom22; have hr22 := Kd.F_take (m := ((ji14) : Int).toNat) hC22 (by omega); have hy22 : y407.length = ((ji14) : Int).toNat := (by rw [Ny407.out, List.length_take]; omega); rw [← Ny407.out] at hr22; rw [← hy22] at hcut22; have HO411 := Aside0.mk (show Kd.V k49 49 _ w.heap.size _ (.slice (some ad391) y407.length c0) y407 from Kd.V_mk (by omega) hr22); have HC411 := Aside0.mk (show y407.length ≤ c0 from by omega); clear hr22 hC22 hroom22 hi022 hsz22; have KY22 := Aside0.mk hy22; clear hy22; replace q22 := eq_true q22; have q23 : ((ji2) : Int) ≤ ((l0.length : Int) : Int) := of_decide_eq_true az_; obtain ⟨i023, hi023, _, hsz23, _⟩ := info_parts info49; have hroom23 : l0.length ≤ c0 := (Kd.V_reads' HO0.out).2.1; have hC23 : Kd.F k49 _ _ (some ad391) l0.length l0 := (Kd.V_at (base := w.heap.size) HO0.out).2.2; have ql23 : ((ji14) : Int) ≤ ((ji2) : Int) := of_decide_eq_true az_; have q023 : (0 : Int) ≤ ((ji14) : Int) := of_decide_eq_true az_; have hcut23 := cut_mid (P := Try.prog) 25 49 .i64 .i64 Try.underlying25 hi023 2 hsz23 (some ad391) l0.length c0 (ji14) (ji2) q023 ql23 q23 hroom23; have hr23 := Kd.F_mid (lo := ((ji14) : Int).toNat) (hi := ((ji2) : Int).toNat) (c := c0) hC23 (by omega) (by omega) hroom23; obtain ⟨A23, hA23⟩ : ∃ A1, A1 = (if c0 = ((ji14) : Int).toNat then (some ad391) else ((some ad391) : Option Addr).map (·.add (((ji14) : Int).toNat * 2))) := ⟨_, rfl⟩; obtain ⟨c23, hc23⟩ : ∃ c1, c1 = c0 - ((ji14) : Int).toNat := ⟨_, rfl⟩; have hy23 : y412.length = ((ji2) : Int).toNat - ((ji14) : Int).toNat := (by rw [Ny412.out, List.length_drop, List.length_take] <;> omega); rw [show ((l0).take ((ji2) : Int).toNat).drop ((ji14) : Int).toNat = y412 from Ny412.out.symm] at hr23; replace hr23 : Kd.F k49 _ _ A23 y412.length y412 := (by rw [hA23]; exact hr23); rw [← hy23, ← hA23, ← hc23] at hcut23; have HO416 := Aside0.mk (show Kd.V k49 49 _ w.heap.size _ (.slice A23 y412.length c23) y412 from Kd.V_mk (by rw [hy23, hc23]; exact Nat.sub_le_sub_right (Nat.le_trans (by omega) hroom23) _) hr23); have HC416 := Aside0.mk (show y412.length ≤ c23 from by rw [hy23, hc23]; exact Nat.sub_le_sub_right (Nat.le_trans (by omega) hroom23) _); clear hr23 hC23 hroom23 hi023 hsz23 hc23; have KY23 := Aside0.mk hy23; have KA23 := Aside0.mk hA23; clear hy23 hA23; replace q23 := eq_true q23)))
           go_ret3
           exact ⟨_, _, by first | rfl | (simp [errW_none, errW_some] <;> rfl) | (simp only [← hji2, ← hji14]; first | rfl | (simp [errW_none, errW_some] <;> rfl)) | (simp [*, errW_none, errW_some] <;> rfl), by (with_reducible repeat (first | apply Kd.V_alloc | apply Kd.V_drewN | apply Kd.V_drew)); exact Kd.V_mono HO411.out (fun _ hk => hk.1), by (with_reducible repeat (first | apply Kd.V_alloc | apply Kd.V_drewN | apply Kd.V_drew)); exact Kd.V_mono HO416.out (fun _ hk => hk.1), bz_⟩
          ·rw [if_neg c19] at H
           exact absurd H (by simp)
         ·rw [if_neg c18] at H
          exact absurd H (by simp)
        ·rw [if_neg c16] at H
         exact absurd H (by simp)
       ·rw [if_neg c15] at H
        exact absurd H (by simp)
      ·rw [if_neg c13] at H
       exact absurd H (by simp)
     ·rw [if_neg c12] at H
      exact absurd H (by simp)
  ·rw [if_neg c4] at H
   exact absurd H (by simp)
 ·rw [if_neg c3] at H
  exact absurd H (by simp)

def impl_none.f  : Option ((List (S49))) := some (([(⟨1, ([] : List Int)⟩ : S49)] : List (S49)))
theorem impl_none.calls  (r : List (S49)) (w : World) (h : impl_none.f  = some r) :
  Calls Try.prog 89 #[] w fun e w' => ∃ v0_ : Value, e = .returned (v0_) ∧ Kd.S k49 49 w' w.heap.size (fun _ => True) v0_ r ∧ Below w.heap.size w w' := by
 have hu49 := Try.underlying49
 have HB := Aside0.mk (Below.refl w.heap.size w)
 have H : (some (([(⟨1, ([] : List Int)⟩ : S49)] : List (S49)))) = some r := h
 clear h
 obtain ⟨y417, hy417⟩ : ∃ y_ : List (S49), y_ = (([(⟨1, ([] : List Int)⟩ : S49)] : List (S49))) := ⟨_, rfl⟩
 replace H : (some y417) = some r := yz_ hy417 H
 have Ny417 := Aside0.mk hy417
 clear hy417
 obtain rfl := Option.some.inj H
 go_enter Try.func89, Try.ntmps89
 go_wp2_with (first | ((with_reducible refine gate_dst (N := 2) rfl ?_); refine Kd.S_lit k49 _ 49 ?hg (N := 2) ?hd (xs := ([(⟨1, ([] : List Int)⟩ : S49)] : List (S49))) (inner := [.int .i64 1, .slice none 0 0]) (ok := fun _ => True) (okp := fun _ => True) ?hr ?hp (fun _ hk => hk) trivial (Below.refl _ _) (Nat.le_refl _) (by simp) ?_; (case hd => rfl); (case hg => rfl); (case hr => first | (go_simp; done) | (go_simp; rfl)); (case hp => exact (Reps.c2 (show Kd.M k49 _ _ _ (⟨1, ([] : List Int)⟩ : S49) [.int .i64 1, .slice none 0 0] from (k49_mkM _ _ _ (⟨1, ([] : List Int)⟩ : S49) (Kd.R_nil _ _ _ _ _))) (Reps.none _ _))); intro v418 w1 ho2 hb hg_ hnew_; clear hg_ hnew_; (first | rw [← Ny417.out] at ho2 | (simp only [Int.reduceToNat] at ho2; rw [← Ny417.out] at ho2)); have n0_ := Aside0.mk (Kd.S_lower ho2 (below_size bz_)); have n1_ := Aside0.mk (below_step bz_ hb); clear HB; have HO419 := n0_; have HB := n1_; clear n0_ n1_; clear hb ho2))
 go_ret
 exact ⟨_, rr_, sz_ HO419.out, bz_⟩

def impl_Re.f (l0 : List (List S49)) : Option (List S49) := if l0.flatten.length < 4398046511104 then some l0.flatten else none
theorem growRe (n : Int) (h0 : 0 ≤ n) (h1 : n < 4398046511104) (w : World) :
  Calls Try.prog 130 #[.slice none 0 0, .int .i64 n] w fun e w' => ∃ v : Value, e = .returned v ∧ Kd.N k49 49 w' w.heap.size (fun k_ => w.heap.size ≤ k_) v [] ∧ Below w.heap.size w w' := by
 have hu49 := Try.underlying49
 have c0 : decide (n < 0) = false := decide_eq_false (by omega)
 by_cases hz : 0 < n
 ·have c1 : decide (0 < n) = true := decide_eq_true hz
  have HZ := Aside0.mk hz
  have H0 := Aside0.mk h0
  have HL := Aside0.mk h1
  clear hz
  go_enter Try.func130, Try.ntmps130
  go_wp2_with ((with_reducible refine gate_builtin (b := .append) (xs := #[.tmp 20, .tmp 21]) rfl ?_); at_builtin; refine Kd.R_append_zeros k49 (w0 := w) w.heap.size rfl (.tmp 20) (.tmp 21) 25 3 49 (.agg #[(.int .i64 0), (.slice none 0 0)]) 32 rfl Try.underlying25 Try.underlying3 info49 rfl (by decide) (by decide) (.slice none 0 0) [] (⟨0, []⟩ : S49) n (fun k_ => w.heap.size ≤ k_) rfl rfl (k49_mkM _ _ _ (⟨0, []⟩ : S49) (Kd.R_nil _ _ _ _ _)) (fun _ hk => hk) (Kd.R_nil _ _ _ _ _) H0.out be_ (by simp) (by have := HL.out; simp; omega) ?_; intro v1 w6 ho hb hg hat; clear hg hat; rw [List.nil_append] at ho; have HO := Aside0.mk ho; have HB := Aside0.mk hb; clear ho hb; obtain ⟨g5, co5, eo5, _⟩ := Kd.R_form HO.out (by rw [List.length_replicate]; have := HZ.out; omega); subst eo5)
  go_ret
  exact ⟨_, rfl, Kd.R_N (Kd.R_take HO.out (m := 0) (Nat.zero_le _)), HB.out⟩
 ·have c1 : decide (0 < n) = false := decide_eq_false hz
  have hn : n = 0 := by omega
  have HN := Aside0.mk hn
  clear hz hn
  go_enter Try.func130, Try.ntmps130
  go_wp2
  go_ret
  exact ⟨_, rfl, Kd.N_nil _ _ _ _ _, be_⟩
theorem flat_le {α : Type} : ∀ (l : List (List α)) (k : Nat), (l.take k).flatten.length ≤ l.flatten.length
 | [], _ => by simp
 | _ :: _, 0 => by simp
 | x :: l, k + 1 => by have := flat_le l k; simp only [List.take_succ_cons, List.flatten_cons, List.length_append]; omega
theorem flat_snoc {α : Type} (l : List (List α)) (k : Nat) (h : k < l.length) : (l.take (k + 1)).flatten = (l.take k).flatten ++ l[k] := by
 rw [List.take_succ_eq_append_getElem h, List.flatten_append]; simp
/-- How many elements the first lists have. -/
def sumL {α : Type} (l : List (List α)) (k : Nat) : Nat := (l.take k).flatten.length
theorem sumL_zero {α : Type} (l : List (List α)) : sumL l 0 = 0 := by simp [sumL]
theorem sumL_succ {α : Type} (l : List (List α)) (k : Nat) (h : k < l.length) : sumL l (k + 1) = sumL l k + l[k].length := by
 unfold sumL; rw [flat_snoc l k h, List.length_append]
theorem sumL_le {α : Type} (l : List (List α)) (k : Nat) : sumL l k ≤ l.flatten.length := flat_le l k
theorem catRow {α : Type} {d : Kd α} {e T n c base : Nat} {P0 : Nat → Prop} {w W : World} {A : Option Addr} {l0 : List (List α)} (hb : Below w.heap.size w W) (h : Kd.V (Kd.slice e d) T w base P0 (.slice A n c) l0) (k : Nat) (hk : k < l0.length) :
  ∃ ad A1 c1, A = some ad ∧ W.cell? (ad.add k) = some (.slice A1 l0[k].length c1) ∧ l0[k].length ≤ c1 ∧ Kd.F d W (fun q => P0 q ∧ q < w.heap.size) A1 l0[k].length l0[k] := by
 obtain ⟨hn, _, hF⟩ := Kd.V_at h
 obtain ⟨ad, cs, hA, _, hFK, hcc, _⟩ := Kd.F_get (Kd.F_old hF hb) [] (k : Int) (by omega) (by omega)
 have he : l0.getD (k : Int).toNat [] = l0[k] := by simp [List.getD_eq_getElem?_getD, hk]
 rw [he] at hFK
 obtain ⟨A1, c1, hcs, hl, hF1⟩ := Kd.FK_slice_open hFK
 subst hcs
 refine ⟨ad, A1, c1, hA, ?_, hl, hF1⟩
 have := hcc 0 _ rfl
 simp only [Int.toNat_natCast] at this
 rw [show k * (Kd.slice e d).sz + 0 = k from by show k * 1 + 0 = k; omega] at this
 exact this
theorem impl_Re.calls (P0_ : Nat → Prop) (A0 : Option Addr) (c0 : Nat) (l0 : List (List S49)) (r : List S49) (w : World) (hs0 : Kd.V (Kd.slice 49 k49) 25 w w.heap.size (fun k_ => P0_ k_) (.slice A0 l0.length c0) l0) (h : impl_Re.f l0 = some r) :
  Calls Try.prog 113 #[.slice A0 l0.length c0] w fun e w' => ∃ v0_ : Value, e = .returned (v0_) ∧ Kd.N k49 49 w' w.heap.size (fun k_ => (P0_ k_ ∨ w.heap.size ≤ k_)) v0_ r ∧ Below w.heap.size w w' := by
 have hu49 := Try.underlying49
 unfold impl_Re.f at h
 split at h
 case isFalse => cases h
 case isTrue hlt =>
  obtain rfl := Option.some.inj h
  clear h
  have HL := Aside0.mk hlt
  have HV := Aside0.mk hs0
  have hn : l0.length ≤ 9223372036854775807 := (Kd.V_reads' hs0).2.2.2.1
  clear hs0 hlt
  go_enter Try.func113, Try.ntmps113
  go_wp2
  go_loopg [3, 11] l0.length (fun gg v3 v11 wr => ∃ kk : Nat, kk ≤ l0.length ∧ l0.length - kk ≤ gg ∧ v3 = .int .i64 (sumL l0 kk : Nat) ∧ v11 = .int .i64 kk ∧ Aside0 (Below w.heap.size w wr))
  case atStart => exact ⟨0, Nat.zero_le _, by omega, by rw [sumL_zero]; rfl, rfl, ⟨Below.refl _ _⟩⟩
  case round =>
   obtain ⟨kk, hkk, hg, rfl, rfl, HB⟩ := hrel
   by_cases hlt : kk < l0.length
   ·have hltz : (kk : Int) < (l0.length : Int) := by omega
    obtain ⟨ad, A1, c1, e0, hx0, hcl, hF⟩ := catRow HB.out HV.out kk hlt
    subst e0
    have hs := sumL_succ l0 kk hlt
    have hsum : sumL l0 kk + l0[kk].length ≤ 4398046511104 := by
     have := HL.out
     have := sumL_le l0 (kk + 1)
     omega
    have HS := Aside0.mk hs
    clear hs hF hcl
    go_wp2
    go_roundg (l0.length - (kk + 1))
    case measure => omega
    case rel => exact ⟨kk + 1, by omega, by omega, by rw [HS.out]; go_num, by go_num, HB⟩
   ·have hk2 : kk = l0.length := by omega
    subst hk2
    have hsum := sumL_le l0 l0.length
    have hb2 : sumL l0 l0.length < 4398046511104 := by have := HL.out; omega
    clear hlt hsum
    go_wp2_with (go_at_call 130; refine (growRe _ (Int.natCast_nonneg _) (by omega) _).mono ?_; rintro e w1 ⟨v1, rfl, ho, hb⟩; have HO := Aside0.mk ho; have HB1 := Aside0.mk (HB.out.trans (hb.mono HB.out.size)); clear ho hb)
    have HO2 := Aside0.mk (Kd.N_mono (Kd.N_lower HO.out HB.out.size) (ok' := fun k_ => P0_ k_ ∨ w.heap.size ≤ k_) (fun k_ hk => .inr (Nat.le_trans HB.out.size hk)))
    clear HO HB hb2
    go_loopg [6, 27] l0.length (fun gg v6 v27 wr => ∃ kk : Nat, kk ≤ l0.length ∧ l0.length - kk ≤ gg ∧ v27 = .int .i64 kk ∧ Aside0 (Kd.N k49 49 wr w.heap.size (fun k_ => P0_ k_ ∨ w.heap.size ≤ k_) v6 (l0.take kk).flatten) ∧ Aside0 (Below w.heap.size w wr))
    case atStart => exact ⟨0, Nat.zero_le _, by omega, rfl, by simpa using HO2, HB1⟩
    case round =>
     clear HO2 HB1
     obtain ⟨kk, hkk, hg, rfl, HO, HB⟩ := hrel
     by_cases hlt : kk < l0.length
     ·have hltz : (kk : Int) < (l0.length : Int) := by omega
      obtain ⟨ad, A1, c1, e0, hx0, hcl, hF⟩ := catRow HB.out HV.out kk hlt
      subst e0
      have hs := sumL_succ l0 kk hlt
      have hsum : sumL l0 kk + l0[kk].length ≤ 4398046511104 := by
       have := HL.out
       have := sumL_le l0 (kk + 1)
       omega
      have HSM := Aside0.mk hsum
      have HFS := Aside0.mk (flat_snoc l0 kk hlt)
      have HFF := Aside0.mk hF
      clear hs hF hcl hsum
      go_wp2_with ((with_reducible refine gate_builtin (b := .append) (xs := #[.tmp 31, .tmp 32]) rfl ?_); at_builtin; refine Kd.N_append_rows k49 (w0 := w) w.heap.size rfl (.tmp 31) (.tmp 32) 25 49 (.agg #[(.int .i64 0), (.slice none 0 0)]) 32 rfl Try.underlying25 info49 rfl (by decide) (by decide) u6 ((l0.take kk).flatten) l0[kk] _ _ _ (fun k_ => P0_ k_ ∨ w.heap.size ≤ k_) (fun k_ => P0_ k_ ∧ k_ < w.heap.size) rfl rfl HO.out HFF.out (fun k_ hk => ⟨.inl hk.1, fun e => Nat.not_le.2 hk.2 (Kd.N_base HO.out k_ e.symm)⟩) (fun k_ hk => .inr (Nat.le_trans HB.out.size hk)) HB.out HB.out.size (by have := HSM.out; unfold sumL at this; omega) ?_; intro v1 w6 ho hb hg hat; clear hg hat; rw [← HFS.out] at ho; have HO9 := Aside0.mk ho; have HB9 := Aside0.mk hb; clear ho hb)
      go_roundg (l0.length - (kk + 1))
      case measure => omega
      case rel => exact ⟨kk + 1, by omega, by omega, by go_num, HO9, HB9⟩
     ·have hk2 : kk = l0.length := by omega
      subst hk2
      clear hlt
      go_wp2
      go_ret
      exact ⟨_, rfl, by have := HO.out; rwa [List.take_length] at this, HB.out⟩

def impl_node.f (a0 : Int) (l1 : List (List (S49))) : Option ((List (S49))) := (impl_Re.f l1).bind fun t420 => (if t420.length < 4398046511104 then (some (t420 ++ [(⟨a0, ([] : List Int)⟩ : S49)])) else (none))
theorem impl_node.calls (a0 : Int) (P1_ : Nat → Prop) (A1 : Option Addr) (c1 : Nat) (l1 : List (List (S49))) (r : List (S49)) (w : World) (hs1 : Kd.V (Kd.slice 49 k49) 25 w w.heap.size (fun k_ => P1_ k_) (.slice A1 l1.length c1) l1) (h : impl_node.f a0 l1 = some r) :
  Calls Try.prog 90 #[.int .i64 a0, .slice A1 l1.length c1] w fun e w' => ∃ v0_ : Value, e = .returned (v0_) ∧ Kd.N k49 49 w' w.heap.size (fun k_ => (P1_ k_ ∨ w.heap.size ≤ k_)) v0_ r ∧ Below w.heap.size w w' := by
 have hu49 := Try.underlying49
 have HO1 := Aside0.mk (show Kd.V (Kd.slice 49 k49) 25 w w.heap.size (fun k_ => (P1_ k_ ∨ w.heap.size ≤ k_)) (.slice A1 l1.length c1) l1 from Kd.V_mono hs1 (fun k_ hk => .inl hk))
 have HB := Aside0.mk (Below.refl w.heap.size w)
 have H : ((impl_Re.f l1).bind fun t420 => (if t420.length < 4398046511104 then (some (t420 ++ [(⟨a0, ([] : List Int)⟩ : S49)])) else (none))) = some r := h
 clear h
 replace H := Option.bind_eq_some_iff.mp H
 obtain ⟨t420, A30, H⟩ := H
 try dsimp only at H
 have A3 := Aside0.mk A30
 clear A30
 by_cases c4 : t420.length < 4398046511104
 ·rw [if_pos c4] at H
  have LMc4 := Aside0.mk c4
  clear c4
  obtain ⟨y423, hy423⟩ : ∃ y_ : List (S49), y_ = (t420 ++ [(⟨a0, ([] : List Int)⟩ : S49)]) := ⟨_, rfl⟩
  replace H : (some y423) = some r := yz_ hy423 H
  have Ny423 := Aside0.mk hy423
  clear hy423
  obtain rfl := Option.some.inj H
  go_enter Try.func90, Try.ntmps90
  go_wp2_with (first | ((with_reducible refine gate_callee (f := 113) rfl ?_); refine goesL_ (some 6) rfl rfl Try.func113 (by kernel_rfl) rfl #[.slice A1 l1.length c1] rfl mz_ ?_; (with_reducible refine (impl_Re.calls (fun k_ => (P1_ k_ ∨ w.heap.size ≤ k_)) _ _ l1 t420 _ ?side1 A3.out).mono ?_); (case side1 => exact HO1.out); rintro e w5 ⟨v421, rfl, ho0, hb⟩; refine ⟨_, rfl, ?_⟩; have n0_ := Aside0.mk (Kd.V_elder' (vz_ HO1.out) (kb_ ho0) hb); have n1_ := Aside0.mk (Kd.N_lower (Kd.N_mono (ok' := fun k_ => (P1_ k_ ∨ w.heap.size ≤ k_)) ho0 (fun k_ hk_ => Or.elim hk_ (fun hs_ => hs_) (fun hn_ => (.inr (Nat.le_trans (below_size bz_) hn_))))) (below_size bz_)); have n2_ := Aside0.mk (below_step bz_ hb); clear HO1; clear HB; have HO1 := n0_; have HO422 := n1_; have HB := n2_; clear n0_ n1_ n2_; (try clear ho0)) | ((with_reducible refine gate_builtin (b := .append) (xs := #[.tmp 6, .tmp 9]) rfl ?_); at_builtin; refine Kd.N_append k49 (w0 := w) w.heap.size rfl (.tmp 6) (.tmp 9) 25 49 (.agg #[(.int .i64 0), (.slice none 0 0)]) 32 rfl Try.underlying25 info49 rfl (by decide) (by omega) v421 t420 (⟨a0, ([] : List Int)⟩ : S49) [.int .i64 a0, .slice none 0 0] (fun k_ => (P1_ k_ ∨ w.heap.size ≤ k_)) (fun k_ => ((fun k_ => (P1_ k_ ∨ w.heap.size ≤ k_))) k_ ∧ some k_ ≠ (v421 : Value).ownBlock) rfl rfl ?aP (fun _ hk => hk) ?aF ?aO ?aB ?aS ?aL ?_; (case aP => exact (k49_mkF _ _ (⟨a0, ([] : List Int)⟩ : S49) (Nat.le_refl _) (Kd.F_nil _ _ _))); (case aB => exact bz_); (case aF => exact (fun k_ hk => (.inr (Nat.le_trans (below_size bz_) hk)))); (case aO => exact (nz_ HO422.out)); (case aS => exact (below_size bz_)); (case aL => have := LMc4.out; omega); intro v424 w6 ho hb hg hat; rw [← Ny423.out] at ho; have n0_ := Aside0.mk (Kd.V_afterv (ok := (fun k_ => (P1_ k_ ∨ w.heap.size ≤ k_))) (vz_ HO1.out) hg hat); have n1_ := Aside0.mk (hb); have n2_ := Aside0.mk (ho); clear HO1; clear HB; clear HO422; have HO1 := n0_; have HB := n1_; have HO425 := n2_; clear n0_ n1_ n2_; clear ho hb hg hat))
  go_ret
  exact ⟨_, rr_, nz_ HO425.out, bz_⟩
 ·rw [if_neg c4] at H
  exact absurd H (by simp)

def impl_nothing.f  : Option ((List (S49))) := some (([(⟨2, ([] : List Int)⟩ : S49)] : List (S49)))
theorem impl_nothing.calls  (r : List (S49)) (w : World) (h : impl_nothing.f  = some r) :
  Calls Try.prog 108 #[] w fun e w' => ∃ v0_ : Value, e = .returned (v0_) ∧ Kd.S k49 49 w' w.heap.size (fun _ => True) v0_ r ∧ Below w.heap.size w w' := by
 have hu49 := Try.underlying49
 have HB := Aside0.mk (Below.refl w.heap.size w)
 have H : (some (([(⟨2, ([] : List Int)⟩ : S49)] : List (S49)))) = some r := h
 clear h
 obtain ⟨y426, hy426⟩ : ∃ y_ : List (S49), y_ = (([(⟨2, ([] : List Int)⟩ : S49)] : List (S49))) := ⟨_, rfl⟩
 replace H : (some y426) = some r := yz_ hy426 H
 have Ny426 := Aside0.mk hy426
 clear hy426
 obtain rfl := Option.some.inj H
 go_enter Try.func108, Try.ntmps108
 go_wp2_with (first | ((with_reducible refine gate_dst (N := 2) rfl ?_); refine Kd.S_lit k49 _ 49 ?hg (N := 2) ?hd (xs := ([(⟨2, ([] : List Int)⟩ : S49)] : List (S49))) (inner := [.int .i64 2, .slice none 0 0]) (ok := fun _ => True) (okp := fun _ => True) ?hr ?hp (fun _ hk => hk) trivial (Below.refl _ _) (Nat.le_refl _) (by simp) ?_; (case hd => rfl); (case hg => rfl); (case hr => first | (go_simp; done) | (go_simp; rfl)); (case hp => exact (Reps.c2 (show Kd.M k49 _ _ _ (⟨2, ([] : List Int)⟩ : S49) [.int .i64 2, .slice none 0 0] from (k49_mkM _ _ _ (⟨2, ([] : List Int)⟩ : S49) (Kd.R_nil _ _ _ _ _))) (Reps.none _ _))); intro v427 w1 ho2 hb hg_ hnew_; clear hg_ hnew_; (first | rw [← Ny426.out] at ho2 | (simp only [Int.reduceToNat] at ho2; rw [← Ny426.out] at ho2)); have n0_ := Aside0.mk (Kd.S_lower ho2 (below_size bz_)); have n1_ := Aside0.mk (below_step bz_ hb); clear HB; have HO428 := n0_; have HB := n1_; clear n0_ n1_; clear hb ho2))
 go_ret
 exact ⟨_, rr_, sz_ HO428.out, bz_⟩

end Go.Proofs.Ytlmpeaelpchokaa.HFnExactDerivRe
