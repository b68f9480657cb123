/- Written by wip/pr.py of this session, for the law FnExactSortMarks: Lean functions with the answers of the program's, and the proofs of that; where the kit's print has no word, by hand. -/
import Derived.Test.YtaeaeejfaffbpaaHFnExactSortMarksx0
import Derived.Test.YtaeaeejfaffbpaaHFnExactSortMarksx3
import Derived.Test.YtaeaeejfaffbpaaHFnExactSortMarksx4
import Derived.Test.YtaeaeejfaffbpaaHFnExactSortMarksx5
import Derived.Test.YtaeaeejfaffbpaaHFnExactSortMarksx8
namespace Go.Proofs.Ytaeaeejfaffbpaa.HFnExactSortMarks
open Go.RowKit Go.Proofs.YtaeaeejfaffbpaaW.PrintWords Go.Proofs.YtaeaeejfaffbpaaW.PrintLast Go.Proofs.YtaeaeejfaffbpaaW.PrintMore
attribute [local go_sem] max2_int min2_int max_two min_two max_three min_three max_four min_four   -- for this text's walks alone
set_option linter.unusedVariables false
set_option linter.unusedSimpArgs false

def impl_sortMarks.f (l0 : List Int) : Option (List Int) := if l0.length ≤ 300 then some (sortM l0) else none
set_option maxHeartbeats 8000000 in
set_option maxRecDepth 1000000 in
theorem impl_sortMarks.calls (A0 : Option Addr) (c0 : Nat) (l0 : List Int) (r : List Int) (w : World) (hr0 : Kd.C (Kd.int .i64) w A0 l0.length l0) (hc0 : l0.length ≤ c0) (h : impl_sortMarks.f l0 = some r) :
    Calls Try.prog 37 #[.slice A0 l0.length c0] w fun e w' => ∃ v0_ : Value, e = .returned v0_ ∧ Kd.R (Kd.int .i64) 3 w' w.heap.size (fun _ => True) v0_ r ∧ Below w.heap.size w w' := by
  unfold impl_sortMarks.f at h
  by_cases hl : l0.length ≤ 300
  · rw [if_pos hl] at h
    obtain rfl := Option.some.inj h
    clear h
    have HCl := Aside0.mk (slices_Clone_int_int.calls A0 c0 l0 l0 w hr0 hc0 (by unfold slices_Clone_int_int.f; rw [if_pos (by omega)]))
    clear hr0 hc0
    by_cases hn : l0 = []
    · subst hn
      simp only [List.length_nil] at HCl ⊢
      go_enter Try.func37, Try.ntmps37
      go_wp2_with (go_at_call 70; (with_reducible refine HCl.out.mono ?_); rintro e w2 ⟨v0, rfl, ho, hb⟩; obtain ⟨Ao, co, eo⟩ := Kd.R_slice ho; subst eo; have HO := Aside0.mk ho; have HB := Aside0.mk hb; clear ho hb)
      go_loopg [4] 0 (fun kx s4 wr => s4 = .int .i64 0 ∧ Aside0 (Kd.R (Kd.int .i64) 3 wr w.heap.size (fun _ => True) (.slice Ao ([] : List Int).length co) []) ∧ Aside0 (Below w.heap.size w wr))
      case atStart => exact ⟨rfl, HO, HB⟩
      case round =>
        clear HO HB
        obtain ⟨rfl, HO, HB⟩ := hrel
        go_wp2
        go_ret
        exact ⟨_, rfl, HO.out, HB.out⟩
    · have HN := Aside0.mk hn
      have hpos : 0 < l0.length := by
        cases l0 with
        | nil => exact absurd rfl hn
        | cons x xs => simp
      clear hn
      go_enter Try.func37, Try.ntmps37
      go_wp2_with (go_at_call 70; (with_reducible refine HCl.out.mono ?_); rintro e w2 ⟨v0, rfl, ho, hb⟩; obtain ⟨g, cap, eo, hg, hmax, hrow⟩ := rowAt_of_R ho HN.out; subst eo; have RW := Aside0.mk hrow; have HB := Aside0.mk hb; have HG := Aside0.mk hg; have HX := Aside0.mk hmax; clear ho hb hrow hg hmax)
      go_loopg [4] (l0.length + 1) (fun kx s4 wr => ∃ (a : Nat) (L : List Int), s4 = .int .i64 (a : Int) ∧ L.length = l0.length ∧ a ≤ l0.length + 1 ∧ l0.length + 1 - a ≤ kx ∧ Aside0 (RowAt wr g cap L) ∧ Aside0 (Below w.heap.size w wr) ∧ Aside0 (SMI a l0 L))
      case atStart => exact ⟨0, l0, rfl, rfl, by omega, by omega, RW, HB, ⟨SMI.start l0⟩⟩
      case round =>
        clear RW HB
        obtain ⟨a, L, rfl, hLl, han, hkx, RW, HB, HI⟩ := hrel
        by_cases hlt : a < l0.length
        · have hltz : (a : Int) < (l0.length : Int) := by omega
          obtain ⟨hr1, hr2, hr3, hr4, hr5⟩ := HI.out.run hlt hLl
          obtain ⟨run, hrun⟩ : ∃ q, q = runM l0 a := ⟨_, rfl⟩
          rw [← hrun] at hr1 hr2 hr3 hr4 hr5
          obtain ⟨b, hb⟩ : ∃ q, q = a + run.length := ⟨_, rfl⟩
          have H1 := Aside0.mk hr1
          have H3 := Aside0.mk hr3
          have H4 := Aside0.mk hr4
          have H5 := Aside0.mk hr5
          have HBb := Aside0.mk hb
          have hb2 : a + run.length ≤ b ∧ b ≤ a + run.length := by omega
          clear hr1 hr3 hr4 hr5 hb hrun
          have hcap : l0.length ≤ cap := by have := RW.out.cap; omega
          have hcut : ∀ W : World, (Instr.slice 22 (.slice (some ⟨g, 0, none⟩) l0.length cap) (some (.int .i64 (a : Int))) (some (.int .i64 (b : Int))) none).run Try.prog W = .ok (.slice (some ⟨g, a, none⟩) run.length (cap - a)) W := by
            obtain ⟨i0, hi0, _, hsz0, _⟩ := info_parts info3
            intro W
            have e := cut_mid (P := Try.prog) 22 3 .i64 .i64 Try.underlying22 hi0 1 hsz0 (some ⟨g, 0, none⟩) l0.length cap (a : Int) (b : Int) (by omega) (by omega) (by omega) hcap W
            rw [e, if_neg (by omega)]
            simp [Addr.add]
            omega
          have HS := Aside0.mk (fun (W : World) (hr : RowAt W g cap L) => sortStableT g a (cap - a) run W (hr.holds a run H3.out) (by omega) H1.out)
          have HZ := Aside0.mk (fun (W W' : World) (hr : RowAt W g cap L) (d : Array TI) (S : SW encT W g a d W') (e : d.toList.map TI.x = sortM run) => (by have q := RowAt.sorted hr S e (by rw [sortM_length]; omega); rw [sortM_length] at q; exact q : RowAt W' g cap (L.take a ++ sortM run ++ L.drop (a + run.length))))
          have hmx : max (a : Int) (b : Int) = (b : Int) := by omega
          go_wp2
          go_loopg [5] (b - a) (fun kx s5 wr => ∃ t : Nat, s5 = .int .i64 (t : Int) ∧ a ≤ t ∧ t ≤ b ∧ b - t ≤ kx ∧ Aside0 (RowAt wr g cap L) ∧ Aside0 (Below w.heap.size w wr))
          case atStart => exact ⟨a, rfl, Nat.le_refl _, by omega, Nat.le_refl _, RW, HB⟩
          case round =>
            clear RW HB
            obtain ⟨t, rfl, hat, htb, hkx2, RW, HB⟩ := hrel
            by_cases c : t < b
            · have htz : (t : Int) < (l0.length : Int) := by omega
              obtain ⟨x, hx⟩ : ∃ x, x = run[t - a]'(by omega) := ⟨_, rfl⟩
              obtain ⟨q1, q2⟩ := H3.out (t - a) (by omega)
              rw [← hx, show a + (t - a) = t from by omega] at q2
              have HM := Aside0.mk (fun w => impl_isMark.calls x true w (mark_f (H1.out x (by rw [hx]; exact List.getElem_mem _))))
              have la := RW.out.cell t (by omega)
              rw [List.getElem?_eq_getElem (by omega)] at q2
              rw [Option.some.inj q2] at la
              have la1 := la.1
              obtain ⟨tN, htN⟩ : ∃ q, q = t := ⟨_, rfl⟩
              have et : ((t : Int)).toNat = tN := by omega
              rw [← htN] at la1
              clear la q1 q2 hx htN
              go_wp2_with (go_at_call 71; (with_reducible refine (HM.out _).mono ?_); rintro e w2 ⟨rfl, ⟨nd, rfl⟩⟩)
              go_roundg (b - (t + 1))
              case measure => omega
              case rel => exact ⟨t + 1, by first | rfl | simp | go_num, by omega, by omega, Nat.le_refl _, ⟨RW.out.drewN _⟩, ⟨pw_below_drewN HB.out _⟩⟩
            · obtain rfl : t = b := by omega
              by_cases c2 : t < l0.length
              · have htz : (t : Int) < (l0.length : Int) := by omega
                obtain ⟨x, q2, hx⟩ := H4.out (by omega)
                rw [show a + run.length = t from by omega] at q2
                have HM := Aside0.mk (fun w => impl_isMark.calls x false w (nomark_f hx))
                have la := RW.out.cell t (by omega)
                rw [List.getElem?_eq_getElem (by omega)] at q2
                rw [Option.some.inj q2] at la
                have la1 := la.1
                obtain ⟨tN, htN⟩ : ∃ q, q = t := ⟨_, rfl⟩
                have et : ((t : Int)).toNat = tN := by omega
                rw [← htN] at la1
                clear la q2 hx htN
                go_wp2_with (first | (go_at_call 71; (with_reducible refine (HM.out _).mono ?_); rintro e w2 ⟨rfl, ⟨nd, rfl⟩⟩) | (go_at_call 72; (with_reducible refine (HS.out _ (RW.out.drewN _)).mono ?_); rintro e' w3 ⟨rfl, d2, S2, E2⟩; have RW2 := Aside0.mk (HZ.out _ _ (RW.out.drewN _) d2 S2 E2); have HB2 := Aside0.mk (Below.trans (pw_below_drewN HB.out _) (sw_below S2 HG.out HB.out.size)); clear S2 E2))
                all_goals
                  go_roundg (l0.length - t)
                  case measure => omega
                  case rel => exact ⟨t + 1, L.take a ++ sortM run ++ L.drop (a + run.length), by first | rfl | (congr 1; omega), by simp only [List.length_append, List.length_take, List.length_drop, sortM_length]; omega, by omega, by omega, RW2, HB2, ⟨by have q := H5.out; rw [show a + run.length + 1 = t + 1 from by omega] at q; exact q⟩⟩
              · have htz : ¬ (t : Int) < (l0.length : Int) := by omega
                go_wp2_with (go_at_call 72; (with_reducible refine (HS.out _ RW.out).mono ?_); rintro e' w3 ⟨rfl, d2, S2, E2⟩; have RW2 := Aside0.mk (HZ.out _ _ RW.out d2 S2 E2); have HB2 := Aside0.mk (Below.trans HB.out (sw_below S2 HG.out HB.out.size)); clear S2 E2)
                all_goals
                  go_roundg (l0.length - t)
                  case measure => omega
                  case rel => exact ⟨t + 1, L.take a ++ sortM run ++ L.drop (a + run.length), by first | rfl | (congr 1; omega), by simp only [List.length_append, List.length_take, List.length_drop, sortM_length]; omega, by omega, by omega, RW2, HB2, ⟨by have q := H5.out; rw [show a + run.length + 1 = t + 1 from by omega] at q; exact q⟩⟩
        · have hltz : ¬ (a : Int) < (l0.length : Int) := by omega
          go_wp2
          go_ret
          refine ⟨_, rfl, ?_, HB.out⟩
          have e := HI.out.last (by omega)
          rw [← hLl]
          rw [← e]
          exact R_of_rowAt RW.out HG.out HX.out
  · rw [if_neg hl] at h
    cases h

/-! ### impl_GoodRune: function 81 -/
def impl_GoodRune.f (a0 : Int) : Option (Bool) := (impl_inRange.f a0 0 1114111).bind fun t184 => (if t184 = true then ((impl_inRange.f a0 55296 57343).bind fun t185 => (some (!t185))) else (some false))
set_option maxHeartbeats 8000000 in
set_option maxRecDepth 100000 in
theorem impl_GoodRune.calls (a0 : Int) (r : Bool) (w : World) (h : impl_GoodRune.f a0 = some r) :
    Calls Try.prog 81 #[.int .i64 a0] w fun e w' => e = .returned (.bool r) ∧ Drawn0 w w' := by
  have H : ((impl_inRange.f a0 0 1114111).bind fun t184 => (if t184 = true then ((impl_inRange.f a0 55296 57343).bind fun t185 => (some (!t185))) else (some false))) = some r := h
  clear h
  replace H := Option.bind_eq_some_iff.mp H
  obtain ⟨t184, A20, H⟩ := H
  replace H : (if t184 = true then ((impl_inRange.f a0 55296 57343).bind fun t185 => (some (!t185))) else (some false)) = some r := H
  have A2 := Aside0.mk A20
  clear A20
  by_cases c3 : t184 = true
  · subst c3
    have H1 : ((impl_inRange.f a0 55296 57343).bind fun t185 => (some (!t185))) = some r := by rw [if_pos rfl] at H; exact H
    clear H
    have H := H1
    clear H1
    replace H := Option.bind_eq_some_iff.mp H
    obtain ⟨t185, A40, H⟩ := H
    replace H : (some (!t185)) = some r := H
    have A4 := Aside0.mk A40
    clear A40
    obtain rfl := Option.some.inj H
    go_enter Try.func81, Try.ntmps81
    go_wp2_with (first | ((with_reducible refine gate_callee (f := 47) rfl ?_); refine goesL_ (some 4) rfl rfl Try.func47 (by kernel_rfl) rfl #[.int .i64 a0, .int .i64 0, .int .i64 1114111] rfl (by (try simp only [List.map_toArray, List.map_cons, List.map_nil]); first | done | rfl | (simp only [List.length_drop, List.length_take]; rfl)) ?_; (with_reducible refine (impl_inRange.calls a0 0 1114111 true _ A2.out).mono ?_); rintro e w' ⟨rfl, ⟨nd, rfl⟩⟩; refine ⟨_, rfl, ?_⟩) | (go_at_call 47; (with_reducible refine (impl_inRange.calls a0 55296 57343 t185 _ A4.out).mono ?_); rintro e w' ⟨rfl, ⟨nd, rfl⟩⟩))
    go_ret
    exact ⟨by first | rfl | (simp; done) | (simp [*]; done), by repeat (first | exact Drawn0.refl _ | apply Drawn0.step)⟩
  · replace c3 := Bool.eq_false_iff.mpr c3
    subst c3
    have H1 : (some false) = some r := by rw [if_neg (show ¬ (false = true) by decide)] at H; exact H
    clear H
    have H := H1
    clear H1
    obtain rfl := Option.some.inj H
    go_enter Try.func81, Try.ntmps81
    go_wp2_with (first | ((with_reducible refine gate_callee (f := 47) rfl ?_); refine goesL_ (some 4) rfl rfl Try.func47 (by kernel_rfl) rfl #[.int .i64 a0, .int .i64 0, .int .i64 1114111] rfl (by (try simp only [List.map_toArray, List.map_cons, List.map_nil]); first | done | rfl | (simp only [List.length_drop, List.length_take]; rfl)) ?_; (with_reducible refine (impl_inRange.calls a0 0 1114111 false _ A2.out).mono ?_); rintro e w' ⟨rfl, ⟨nd, rfl⟩⟩; refine ⟨_, rfl, ?_⟩))
    go_ret
    exact ⟨by first | rfl | (simp; done) | (simp [*]; done), by repeat (first | exact Drawn0.refl _ | apply Drawn0.step)⟩

/-! ### impl_areRunes: function 61 -/
/-- The place of the first for which p holds, or -1. -/
def ixOf {α : Type} (p : α → Bool) : List α → Int
  | [] => -1
  | x :: r => if p x = true then 0 else if ixOf p r < 0 then -1 else ixOf p r + 1
theorem ixOf_any {α : Type} (p : α → Bool) (l : List α) : decide (0 ≤ ixOf p l) = l.any p ∧ -1 ≤ ixOf p l := by
  induction l with
  | nil => exact ⟨rfl, Int.le_refl _⟩
  | cons x r ih =>
    obtain ⟨h1, h2⟩ := ih
    rw [List.any_cons, ← h1]
    cases hp : p x with
    | true => simp [ixOf, hp]
    | false =>
      by_cases h : ixOf p r < 0
      · simp only [ixOf, hp, Bool.false_eq_true, if_false, if_pos h, Bool.false_or]
        exact ⟨by rw [Bool.eq_iff_iff]; simp; omega, by omega⟩
      · simp only [ixOf, hp, Bool.false_eq_true, if_false, if_neg h, Bool.false_or]
        exact ⟨by rw [Bool.eq_iff_iff]; simp; omega, by omega⟩
theorem ixOf_hit {α : Type} (p : α → Bool) : ∀ (l : List α) (k : Nat) (h : k < l.length), (∀ j (hj : j < l.length), j < k → p l[j] = false) → p l[k] = true → ixOf p l = (k : Int)
  | [], k, h, _, _ => absurd h (Nat.not_lt_zero _)
  | x :: r, 0, h, _, hp => by simp at hp; simp [ixOf, hp]
  | x :: r, k + 1, h, hj, hp => by
    have h0 : p x = false := hj 0 (by simp) (by omega)
    have ih := ixOf_hit p r k (by simpa using h) (fun j hj' hlt => hj (j + 1) (by simp; omega) (by omega)) hp
    have : ¬ ((k : Int) < 0) := by omega
    simp [ixOf, h0, ih, this]
theorem ixOf_miss {α : Type} (p : α → Bool) (l : List α) (h : ∀ j (hj : j < l.length), p l[j] = false) : ixOf p l = -1 := by
  have h1 : l.any p = false := by
    rw [List.any_eq_false]
    intro x hx
    obtain ⟨j, hj, rfl⟩ := List.mem_iff_getElem.1 hx
    simp [h j hj]
  have h2 := ixOf_any p l
  rw [h1] at h2
  have := of_decide_eq_false h2.1
  omega

theorem ixInt (p : Int → Bool) (g : Nat) (lb : Array Value) (eg : ∀ args w, (callFunc g args).run Try.prog w = .ok (.enter g args) w) (A : Option Addr) (c : Nat) (zs : List Int) (w : World)
    (hp : ∀ (W : World) (x : Int), Below w.heap.size w W → Calls Try.prog g (#[.int .i64 x] ++ lb) W fun e w' => e = .returned (.bool (p x)) ∧ Below W.heap.size W w')
    (hr : Kd.C (Kd.int .i64) w A zs.length zs) :
    Calls Try.prog 77 #[.slice A zs.length c, .func (.func g) #[] lb] w fun e w' => e = .returned (.int .i64 (ixOf p zs)) ∧ Below w.heap.size w w' := by
  have hbig : zs.length ≤ 9223372036854775807 := hr.2.1
  have HR := Aside0.mk hr
  have HP := Aside0.mk hp
  clear hr hp
  go_enter Try.func77, Try.ntmps77
  go_wp2
  go_loopg [5, 8] zs.length (fun gg _ s8 wr => ∃ kk : Nat, kk ≤ zs.length ∧ zs.length - kk ≤ gg ∧ s8 = .int .i64 kk ∧ Aside0 (Below w.heap.size w wr) ∧ Aside0 (∀ j (hj : j < zs.length), j < kk → p zs[j] = false))
  case atStart => exact ⟨0, Nat.zero_le _, by omega, rfl, ⟨Below.refl _ _⟩, ⟨fun j _ hj => absurd hj (Nat.not_lt_zero _)⟩⟩
  case round =>
    obtain ⟨kk, hkk, hg, rfl, HB, HA⟩ := hrel
    by_cases hlt : kk < zs.length
    · have hltz : (kk : Int) < (zs.length : Int) := by omega
      obtain ⟨ad, e0, hx0⟩ := Kd.at_int HR.out (kk : Int) (by omega) hltz
      subst e0
      have ek : rd zs (kk : Int) = zs[kk] := by unfold rd; simp [List.getD_eq_getElem?_getD, hlt]
      rw [ek] at hx0
      simp only [Int.toNat_natCast] at hx0
      replace hx0 := (HB.out.cell (World.block_lt_of_cell? w _ hx0)).trans hx0
      have EK := Aside0.mk ek
      clear ek
      have hcall := HP.out _ zs[kk] HB.out
      cases hq : p zs[kk] with
      | true =>
        rw [hq] at hcall
        have HQ := Aside0.mk hq
        clear hq
        go_wp2_with (go_at_fn g; refine hcall.mono ?_; rintro e w' ⟨rfl, hb⟩)
        go_ret
        exact ⟨by rw [ixOf_hit p zs kk hlt HA.out HQ.out]; rfl, HB.out.trans (hb.mono HB.out.size)⟩
      | false =>
        rw [hq] at hcall
        have HQ := Aside0.mk hq
        clear hq
        go_wp2_with (go_at_fn g; refine hcall.mono ?_; rintro e w' ⟨rfl, hb⟩)
        go_roundg (zs.length - (kk + 1))
        case measure => omega
        case rel =>
          refine ⟨kk + 1, by omega, by omega, by go_num, ⟨HB.out.trans (hb.mono HB.out.size)⟩, ⟨fun j hj hjk => ?_⟩⟩
          by_cases e : j = kk
          · subst e
            exact HQ.out
          · exact HA.out j hj (by omega)
    · have hltz : ¬ (kk : Int) < (zs.length : Int) := by omega
      have hk2 : kk = zs.length := by omega
      have HK := Aside0.mk hk2
      clear hk2
      go_wp2
      go_ret
      exact ⟨by rw [ixOf_miss p zs (fun j hj => HA.out j hj (by rw [HK.out]; exact hj))]; rfl, HB.out⟩

theorem hasInt (p : Int → Bool) (g : Nat) (lb : Array Value) (eg : ∀ args w, (callFunc g args).run Try.prog w = .ok (.enter g args) w) (A : Option Addr) (c : Nat) (zs : List Int) (w : World)
    (hp : ∀ (W : World) (x : Int), Below w.heap.size w W → Calls Try.prog g (#[.int .i64 x] ++ lb) W fun e w' => e = .returned (.bool (p x)) ∧ Below W.heap.size W w')
    (hr : Kd.C (Kd.int .i64) w A zs.length zs) :
    Calls Try.prog 50 #[.slice A zs.length c, .func (.func g) #[] lb] w fun e w' => e = .returned (.bool (zs.any p)) ∧ Below w.heap.size w w' := by
  have hc := ixInt p g lb eg A c zs w hp hr
  have h2 := (ixOf_any p zs).1
  clear hp hr
  generalize ixOf p zs = i at hc h2
  have H2 := Aside0.mk h2
  clear h2
  go_enter Try.func50, Try.ntmps50
  go_wp2_with (go_at_call 77; refine hc.mono ?_; rintro e w' ⟨rfl, hb⟩)
  go_ret
  exact ⟨by rw [H2.out]; rfl, hb⟩

def goodRuneV (r : Int) : Bool := decide (0 ≤ r ∧ r ≤ 1114111) && !decide (55296 ≤ r ∧ r ≤ 57343)
theorem goodRuneV_f (r : Int) : impl_GoodRune.f r = some (goodRuneV r) := by
  have e : ∀ a b c : Int, impl_inRange.f a b c = some (decide (b ≤ a ∧ a ≤ c)) := fun a b c => by
    unfold impl_inRange.f
    by_cases h : b ≤ a
    · rw [if_pos h]; simp [h]
    · rw [if_neg h]; simp [h]
  unfold impl_GoodRune.f goodRuneV
  rw [e, e]
  simp only [Option.bind_some]
  cases h : decide (0 ≤ r ∧ r ≤ 1114111) <;> simp
def badRuneV (r : Int) : Bool := !goodRuneV r
/-- The closure of areRunes. -/
theorem areRunes_pred (W : World) (x : Int) :
    Calls Try.prog 80 (#[.int .i64 x] ++ #[]) W fun e w' => e = .returned (.bool (badRuneV x)) ∧ Below W.heap.size W w' := by
  have hv := goodRuneV_f x
  have hb : badRuneV x = !goodRuneV x := rfl
  generalize goodRuneV x = q at hv hb
  have HV := Aside0.mk hv
  have HB := Aside0.mk hb
  clear hv hb
  show Calls Try.prog 80 #[.int .i64 x] W _
  go_enter Try.func80, Try.ntmps80
  go_wp2_with (go_at_call 81; refine (impl_GoodRune.calls x q _ HV.out).mono ?_; rintro e w' ⟨rfl, ⟨nd, rfl⟩⟩)
  go_ret
  exact ⟨by rw [HB.out]; rfl, by repeat (first | (with_reducible first | exact Below.refl _ _ | apply pw_below_drewN | apply below_drew1 | apply below_alloc))⟩
def areRunesV (l : List Int) (m : Int) : Bool := if (l.length : Int) ≤ m then !l.any badRuneV else false
def impl_areRunes.f (l0 : List Int) (a1 : Int) : Option (Bool) := some (areRunesV l0 a1)
set_option maxHeartbeats 8000000 in
theorem impl_areRunes.calls (A0 : Option Addr) (c0 : Nat) (l0 : List Int) (a1 : Int) (r : Bool) (w : World) (hr0 : Kd.C (Kd.int .i64) w A0 l0.length l0) (hc0 : l0.length ≤ c0) (h : impl_areRunes.f l0 a1 = some r) :
    Calls Try.prog 61 #[.slice A0 l0.length c0, .int .i64 a1] w fun e w' => e = .returned (.bool r) ∧ Below w.heap.size w w' := by
  obtain rfl := Option.some.inj h
  clear h
  have eg : ∀ args w, (callFunc 80 args).run Try.prog w = .ok (.enter 80 args) w := enters_of Try.func80 (by kernel_rfl) rfl
  have cH := fun (W : World) (hC : Kd.C (Kd.int .i64) W A0 l0.length l0) => hasInt badRuneV 80 #[] eg A0 c0 l0 W (fun W' x _ => areRunes_pred W' x) hC
  have CH := Aside0.mk cH
  have HR := Aside0.mk hr0
  clear cH hr0
  by_cases hm : (l0.length : Int) ≤ a1
  · have hd : decide ((l0.length : Int) ≤ a1) = true := decide_eq_true hm
    have ha : areRunesV l0 a1 = !l0.any badRuneV := if_pos hm
    have HA := Aside0.mk ha
    clear hm ha
    go_enter Try.func61, Try.ntmps61
    go_wp2_with (go_at_call 50; refine (CH.out _ (Kd.C_below HR.out (by repeat (first | (with_reducible first | exact Below.refl _ _ | apply pw_below_drewN | apply below_drew1 | apply below_alloc))))).mono ?_; rintro e w' ⟨rfl, hb⟩)
    go_ret
    exact ⟨by rw [HA.out]; rfl, hb⟩
  · have hd : decide ((l0.length : Int) ≤ a1) = false := decide_eq_false hm
    have ha : areRunesV l0 a1 = false := if_neg hm
    have HA := Aside0.mk ha
    clear hm ha
    go_enter Try.func61, Try.ntmps61
    go_wp2
    go_ret
    exact ⟨by rw [HA.out]; rfl, Below.refl _ _⟩

/-! ### impl_formed: function 34 -/
def impl_formed.f (l0 : List Int) (a1 : Nat) : Option (List Int × Bool) := if a1 = 37 then (if areRunesV l0 300 = true then ((impl_sortMarks.f l0).bind fun o => (if (o.length : Int) > 300 then some (([] : List Int), false) else some (o, true))) else some (([] : List Int), false)) else none
set_option maxHeartbeats 8000000 in
set_option maxRecDepth 100000 in
theorem impl_formed.calls (A0 : Option Addr) (c0 : Nat) (l0 : List Int) (a1 : Nat) (r1 : List Int) (r2 : Bool) (w : World) (hr0 : Kd.C (Kd.int .i64) w A0 l0.length l0) (hc0 : l0.length ≤ c0) (h : impl_formed.f l0 a1 = some (r1, r2)) :
    Calls Try.prog 34 #[.slice A0 l0.length c0, .func (.func a1) #[] #[]] w fun e w' => ∃ v0_ : Value, e = .returned (.tuple #[v0_, .bool r2]) ∧ Kd.R (Kd.int .i64) 3 w' w.heap.size (fun _ => True) v0_ r1 ∧ Below w.heap.size w w' := by
  unfold impl_formed.f at h
  by_cases e1 : a1 = 37
  · rw [if_pos e1] at h
    subst e1
    have HR := Aside0.mk hr0
    have HC := Aside0.mk hc0
    have eg : ∀ args w, (callFunc 37 args).run Try.prog w = .ok (.enter 37 args) w := enters_of Try.func37 (by kernel_rfl) rfl
    have hAre := fun (w : World) (hr : Kd.C (Kd.int .i64) w A0 l0.length l0) => impl_areRunes.calls A0 c0 l0 300 _ w hr hc0 rfl
    clear hr0 hc0
    cases hv : areRunesV l0 300 with
    | false =>
      rw [hv] at h hAre
      rw [if_neg (by simp)] at h
      simp only [Option.some.injEq, Prod.mk.injEq] at h
      obtain ⟨rfl, rfl⟩ := h
      have HA := Aside0.mk hAre
      clear hAre
      go_enter Try.func34, Try.ntmps34
      go_wp2_with (go_at_call 61; refine (HA.out _ HR.out).mono ?_; rintro e w' ⟨rfl, hb⟩)
      go_ret2
      exact ⟨_, rfl, Kd.R_nil _ _ _ _ _, hb⟩
    | true =>
      rw [hv] at h hAre
      rw [if_pos rfl] at h
      have HA := Aside0.mk hAre
      clear hAre
      obtain ⟨o, ho, h⟩ := Option.bind_eq_some_iff.mp h
      have HS := Aside0.mk (fun (w : World) (hr : Kd.C (Kd.int .i64) w A0 l0.length l0) => impl_sortMarks.calls A0 c0 l0 o w hr HC.out ho)
      clear ho
      by_cases c1 : (o.length : Int) > 300
      · rw [if_pos c1] at h
        have c1b0 : decide ((o.length : Int) > 300) = true := decide_eq_true c1
        clear c1
        simp only [Option.some.injEq, Prod.mk.injEq] at h
        obtain ⟨rfl, rfl⟩ := h
        go_enter Try.func34, Try.ntmps34
        go_wp2_with (first | (go_at_call 61; refine (HA.out _ HR.out).mono ?_; rintro e w' ⟨rfl, hb⟩) | (go_at_fn 37; refine (HS.out _ (Kd.C_below HR.out hb)).mono ?_; rintro e w2 ⟨v2, rfl, ho2, hb2⟩; obtain ⟨Ao2, co2, eo2⟩ := Kd.R_slice ho2; subst eo2))
        go_ret2
        exact ⟨_, rfl, Kd.R_nil _ _ _ _ _, hb.trans (hb2.mono hb.size)⟩
      · rw [if_neg c1] at h
        have c1b0 : decide ((o.length : Int) > 300) = false := decide_eq_false c1
        clear c1
        simp only [Option.some.injEq, Prod.mk.injEq] at h
        obtain ⟨rfl, rfl⟩ := h
        go_enter Try.func34, Try.ntmps34
        go_wp2_with (first | (go_at_call 61; refine (HA.out _ HR.out).mono ?_; rintro e w' ⟨rfl, hb⟩) | (go_at_fn 37; refine (HS.out _ (Kd.C_below HR.out hb)).mono ?_; rintro e w2 ⟨v2, rfl, ho2, hb2⟩; obtain ⟨Ao2, co2, eo2⟩ := Kd.R_slice ho2; subst eo2))
        go_ret2
        exact ⟨_, rfl, Kd.R_lower ho2 hb.size, hb.trans (hb2.mono hb.size)⟩
  · rw [if_neg e1] at h
    exact absurd h (by simp)

/-! ### impl_SortMarks: function 16 -/
def impl_SortMarks.f (l0 : List Int) : Option (List Int × Bool) := (impl_formed.f l0 37).bind fun bt186 => (some (bt186.1, bt186.2))
set_option maxHeartbeats 8000000 in
set_option maxRecDepth 100000 in
theorem impl_SortMarks.calls (A0 : Option Addr) (c0 : Nat) (l0 : List Int) (r1 : List Int) (r2 : Bool) (w : World) (hr0 : Kd.C (Kd.int .i64) w A0 l0.length l0) (hc0 : l0.length ≤ c0) (h : impl_SortMarks.f l0 = some (r1, r2)) :
    Calls Try.prog 16 #[.slice A0 l0.length c0] w fun e w' => ∃ v0_ : Value, e = .returned (.tuple #[v0_, .bool r2]) ∧ Kd.R (Kd.int .i64) 3 w' w.heap.size (fun _ => True) v0_ r1 ∧ Below w.heap.size w w' := by
  have HR0 := Aside0.mk hr0
  have HC0 := Aside0.mk hc0
  clear hr0 hc0
  have HB := Aside0.mk (Below.refl w.heap.size w)
  have H : ((impl_formed.f l0 37).bind fun bt186 => (some (bt186.1, bt186.2))) = some (r1, r2) := h
  clear h
  replace H := Option.bind_eq_some_iff.mp H
  obtain ⟨⟨t186, t187⟩, A20, H⟩ := H
  replace H : (some (t186, t187)) = some (r1, r2) := H
  have A2 := Aside0.mk A20
  clear A20
  simp only [Option.some.injEq, Prod.mk.injEq] at H
  obtain ⟨rfl, rfl⟩ := H
  go_enter Try.func16, Try.ntmps16
  go_wp2_with (first | ((with_reducible refine gate_callee (f := 34) rfl ?_); refine goesL_ (some 5) rfl rfl Try.func34 (by kernel_rfl) rfl #[.slice A0 l0.length c0, .func (.func 37) #[] #[]] rfl (by (try simp only [List.map_toArray, List.map_cons, List.map_nil]); first | done | rfl | (simp only [List.length_drop, List.length_take]; rfl)) ?_; (with_reducible refine (impl_formed.calls _ _ l0 37 t186 t187 _ ?side1 ?side2 A2.out).mono ?_); (case side1 => repeat (first | exact HR0.out | (with_reducible refine Kd.C_alloc ?_ _) | (with_reducible refine Kd.C_drewN ?_ _) | (with_reducible refine Kd.C_drew ?_))); (case side2 => exact HC0.out); rintro e w3 ⟨v188, rfl, ho0, hb⟩; refine ⟨_, rfl, ?_⟩; have n0_ := Aside0.mk (Kd.R_lower ho0 (below_size (by repeat (first | (with_reducible first | exact HB.out | apply below_alloc | apply pw_below_drewN | apply below_drew1) | exact HB.out | exact Below.refl _ _)))); have n1_ := Aside0.mk (below_step (by repeat (first | (with_reducible first | exact HB.out | apply below_alloc | apply pw_below_drewN | apply below_drew1) | exact HB.out | exact Below.refl _ _)) hb); clear HB; have HO189 := n0_; have HB := n1_; clear n0_ n1_; (try clear hb); (try clear hb2); (try clear hk); (try clear hi); (try clear ho0)))
  go_ret2
  exact ⟨_, by first | rfl | (simp [errW_none, errW_some] <;> rfl) | (simp [*, errW_none, errW_some] <;> rfl), by (with_reducible repeat (first | apply Kd.R_alloc | apply Kd.R_drewN | apply Kd.R_drew)); exact HO189.out, by repeat (first | (with_reducible first | exact HB.out | apply below_alloc | apply pw_below_drewN | apply below_drew1) | exact HB.out | exact Below.refl _ _)⟩

end Go.Proofs.Ytaeaeejfaffbpaa.HFnExactSortMarks
