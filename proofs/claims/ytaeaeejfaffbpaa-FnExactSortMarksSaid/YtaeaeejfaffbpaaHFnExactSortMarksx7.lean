/- Written by wip/pr.py of this session, for the law FnExactSortMarks: Lean functions with the answers of the program's, and the proofs of that; where the kit's print has no word, by hand. -/
import Derived.Test.YtaeaeejfaffbpaaHFnExactSortMarksx0
import Derived.Test.YtaeaeejfaffbpaaHFnExactSortMarksx4
import Derived.Test.YtaeaeejfaffbpaaHFnExactSortMarksx5
import Derived.Test.YtaeaeejfaffbpaaHFnExactSortMarksx6
namespace Go.Proofs.Ytaeaeejfaffbpaa.HFnExactSortMarks
open Go.RowKit Go.Proofs.YtaeaeejfaffbpaaW.PrintWords Go.Proofs.YtaeaeejfaffbpaaW.PrintLast Go.Proofs.YtaeaeejfaffbpaaW.PrintMore
attribute [local go_sem] max2_int min2_int max_two min_two max_three min_three max_four min_four   -- for this text's walks alone
set_option linter.unusedVariables false
set_option linter.unusedSimpArgs false

set_option maxHeartbeats 8000000 in
set_option maxRecDepth 1000000 in
theorem symC (blk off cap g : Nat) (d0 : Array TI) (w0 : World) (R : Row1 encT w0 blk off d0) (hcmp : CmpLays1 Try.prog g #[] encT cfT blk off d0.size w0) (eg : ∀ args w, (callFunc g args).run Try.prog w = .ok (.enter g args) w) (hsz : d0.size < 1000000) (N : Nat) (IH : ∀ (a m b : Nat) (d : Array TI) (w : World), b - a ≤ N → a < m → m < b → b ≤ d.size → d0.size = d.size → SW encT w0 blk off d w → Mer a m b d → Calls Try.prog 90 #[.slice (some ⟨blk, off, none⟩) d.size cap, .int .i64 a, .int .i64 m, .int .i64 b, .func (.func g) #[] #[]] w fun e' w' => e' = .returned (.tuple #[]) ∧ ∃ d', SW encT w0 blk off d' w' ∧ Sort.PermIn a b d d' ∧ SortedT a b d') (a m b : Nat) (d : Array TI) (w : World) (h1 : a < m) (h2 : m < b) (h3 : b ≤ d.size) (hs : d0.size = d.size) (S : SW encT w0 blk off d w) (HM0 : Mer a m b d) (hN : b - a ≤ N + 1) (ca : ¬ m - a = 1) (cb : ¬ b - m = 1) :
    Calls Try.prog 90 #[.slice (some ⟨blk, off, none⟩) d.size cap, .int .i64 a, .int .i64 m, .int .i64 b, .func (.func g) #[] #[]] w fun e' w' => e' = .returned (.tuple #[]) ∧ ∃ d', SW encT w0 blk off d' w' ∧ Sort.PermIn a b d d' ∧ SortedT a b d' := by
  have mixed : Try.prog.follows .mixedOrders = true := by kernel_rfl
  have HC : Aside0 _ := ⟨hcmp⟩
  have hcl0 := R.hO.cells
  simp only [Value.cells] at hcl0
  have hst := R.hO.store Try.prog
  have S0 : Aside0 (SW encT w0 blk off d w) := ⟨S⟩
  have HM : Aside0 (Mer a m b d) := ⟨HM0⟩
  clear S HM0 hcmp
  have wma : IntKind.i64.wrap ((m : Int) - (a : Int)) = (m : Int) - (a : Int) := by rw [IntKind.wrap_i64]; omega
  have IH0 := Aside0.mk IH
  clear IH
  have wbm : IntKind.i64.wrap ((b : Int) - (m : Int)) = (b : Int) - (m : Int) := by rw [IntKind.wrap_i64]; omega
  have caz : (((m : Int) - (a : Int)) == 1) = false := by rw [beq_eq_false_iff_ne]; omega
  have cbz : (((b : Int) - (m : Int)) == 1) = false := by rw [beq_eq_false_iff_ne]; omega
  obtain ⟨mid, hmid⟩ : ∃ q, q = (a + b) / 2 := ⟨_, rfl⟩
  have wab : IntKind.i64.wrap ((a : Int) + (b : Int)) = (a : Int) + (b : Int) := by rw [IntKind.wrap_i64]; omega
  have hz := Aside0.mk (show ((a : Int) + (b : Int)) / 2 = (mid : Int) from by omega)
  have hm1 : 2 * mid ≤ a + b ∧ a + b ≤ 2 * mid + 1 := by omega
  clear hmid
  obtain ⟨n, hn⟩ : ∃ q, mid + m = q := ⟨_, rfl⟩
  have wn : IntKind.i64.wrap (((a : Int) + (b : Int)) / 2 + (m : Int)) = (n : Int) := by rw [hz.out, IntKind.wrap_i64]; omega
  go_enter Try.func90, Try.ntmps90
  go_upto_if 140 with fail
  rw [hz.out]
  clear hz wn wab
  go_cut [20, 21] (fun s20 s21 wr => ∃ s0 r0 : Nat, s20 = .int .i64 (s0 : Int) ∧ s21 = .int .i64 (r0 : Int) ∧ ((mid < m ∧ s0 + b = n ∧ r0 = mid) ∨ (m ≤ mid ∧ s0 = a ∧ r0 = m)) ∧ Aside0 (SW encT w0 blk off d wr))
  case first =>
    by_cases c : mid < m
    · have cz : (mid : Int) < (m : Int) := by omega
      obtain ⟨s0, hs0⟩ : ∃ q, q + b = n := ⟨n - b, by omega⟩
      have wnb : IntKind.i64.wrap ((n : Int) - (b : Int)) = (s0 : Int) := by rw [IntKind.wrap_i64]; omega
      go_wp2
      go_meet
      case rel => exact ⟨s0, mid, rfl, rfl, .inl ⟨c, hs0, rfl⟩, S0⟩
    · have cz : ¬ (mid : Int) < (m : Int) := by omega
      go_wp2
      go_meet
      case rel => exact ⟨a, m, rfl, rfl, .inr ⟨by omega, rfl, rfl⟩, S0⟩
  case rest =>
    clear S0
    obtain ⟨s0, r0, rfl, rfl, hsr, S1⟩ := hcut
    have HSR := Aside0.mk hsr
    have hsr2 : a ≤ s0 ∧ s0 ≤ r0 ∧ r0 ≤ m ∧ r0 ≤ mid ∧ m + r0 ≤ n ∧ n ≤ b + s0 := by omega
    clear hsr
    obtain ⟨p, hp⟩ : ∃ q, n = q + 1 := ⟨n - 1, by omega⟩
    have HPp := Aside0.mk hp
    have hp2 : p + 1 ≤ n ∧ n ≤ p + 1 := by omega
    have wp : IntKind.i64.wrap ((n : Int) - 1) = (p : Int) := by rw [IntKind.wrap_i64]; omega
    clear hp
    go_wp2
    go_loopg [20, 21] (r0 - s0) (fun kx s20 s21 wr => ∃ (st r : Nat), s20 = .int .i64 (st : Int) ∧ s21 = .int .i64 (r : Int) ∧ s0 ≤ st ∧ st ≤ r ∧ r ≤ r0 ∧ r - st ≤ kx ∧ Aside0 (SW encT w0 blk off d wr) ∧ Aside0 ((st = s0 ∨ ordV d[st - 1]!.x ≤ ordV d[p + 1 - st]!.x) ∧ (r = r0 ∨ ordV d[p - r]!.x < ordV d[r]!.x)))
    case atStart => exact ⟨s0, r0, rfl, rfl, Nat.le_refl _, by omega, Nat.le_refl _, Nat.le_refl _, S1, ⟨.inl rfl, .inl rfl⟩⟩
    case round =>
      clear S1
      obtain ⟨i, j, rfl, rfl, hi, hij, hj, hkx, S1, HP⟩ := hrel
      by_cases hlt : i < j
      · have hltz : (i : Int) < (j : Int) := by omega
        obtain ⟨h, hh⟩ : ∃ h, h = (i + j) / 2 := ⟨_, rfl⟩
        have wij : IntKind.i64.wrap ((i : Int) + (j : Int)) = (i : Int) + (j : Int) := by rw [IntKind.wrap_i64]; omega
        have hz := Aside0.mk (show ((i : Int) + (j : Int)) / 2 = (h : Int) from by omega)
        have hh1 : i ≤ h ∧ h < j := by omega
        go_wp2_with fail
        rw [hz.out]
        clear hz wij hh
        have wh : IntKind.i64.wrap ((h : Int) + 1) = ((h + 1 : Nat) : Int) := by rw [IntKind.wrap_i64]; omega
        obtain ⟨u, hu⟩ : ∃ q, q + h = p := ⟨p - h, by omega⟩
        have wpc : IntKind.i64.wrap ((p : Int) - (h : Int)) = (u : Int) := by rw [IntKind.wrap_i64]; omega
        by_cases t : ordV d[u]!.x < ordV d[h]!.x
        · have T := Aside0.mk t
          clear t
          obtain ⟨a_N, hia_⟩ : ∃ q_, q_ = u := ⟨_, rfl⟩
          have ea_ : ((u : Int)).toNat = a_N := by omega
          have pa_ : (0 : Int) ≤ (u : Int) := by omega
          have ba_ : (u : Int) < (d.size : Int) := by omega
          obtain ⟨c_N, hic_⟩ : ∃ q_, q_ = h := ⟨_, rfl⟩
          have ec_ : ((h : Int)).toNat = c_N := by omega
          have pc_ : (0 : Int) ≤ (h : Int) := by omega
          have bc_ : (h : Int) < (d.size : Int) := by omega
          obtain ⟨x, hx⟩ : ∃ x, x = d[u]! := ⟨_, rfl⟩
          obtain ⟨y, hy⟩ : ∃ x, x = d[h]! := ⟨_, rfl⟩
          have la := S1.out.cl R (by omega) (u) (by omega)
          have lc := S1.out.cl R (by omega) (h) (by omega)
          rw [← hx, ← hia_] at la
          rw [← hy, ← hic_] at lc
          have hc := S1.out.cmp HC.out (by omega) x y
          have hv : cfT x y < 0 := by rw [hx, hy, cf_lt]; exact T.out
          have hd : decide (cfT x y < 0) = true := decide_eq_true hv
          clear hx hy hia_ hic_
          go_wp2_with fail
          go_quiet_grown (first | (go_at_fn g; refine Calls.grown_of (hc _ _)))
          have S2 : Aside0 (SW encT w0 blk off d (Sort.grow (wr.drewN nq) osq)) := ⟨S1.out.grown nq osq⟩
          clear la lc hc S1
          generalize Sort.grow (wr.drewN nq) osq = w2 at S2 ⊢
          clear nq osq ea_ ec_
          go_wp2
          go_roundg (h - i)
          case measure => omega
          case rel => exact ⟨i, h, rfl, rfl, hi, by omega, by omega, Nat.le_refl _, S2, ⟨HP.out.1, .inr (by rw [show p - h = u from by omega]; exact T.out)⟩⟩
        · have T := Aside0.mk t
          clear t
          obtain ⟨a_N, hia_⟩ : ∃ q_, q_ = u := ⟨_, rfl⟩
          have ea_ : ((u : Int)).toNat = a_N := by omega
          have pa_ : (0 : Int) ≤ (u : Int) := by omega
          have ba_ : (u : Int) < (d.size : Int) := by omega
          obtain ⟨c_N, hic_⟩ : ∃ q_, q_ = h := ⟨_, rfl⟩
          have ec_ : ((h : Int)).toNat = c_N := by omega
          have pc_ : (0 : Int) ≤ (h : Int) := by omega
          have bc_ : (h : Int) < (d.size : Int) := by omega
          obtain ⟨x, hx⟩ : ∃ x, x = d[u]! := ⟨_, rfl⟩
          obtain ⟨y, hy⟩ : ∃ x, x = d[h]! := ⟨_, rfl⟩
          have la := S1.out.cl R (by omega) (u) (by omega)
          have lc := S1.out.cl R (by omega) (h) (by omega)
          rw [← hx, ← hia_] at la
          rw [← hy, ← hic_] at lc
          have hc := S1.out.cmp HC.out (by omega) x y
          have hv : ¬ cfT x y < 0 := by rw [hx, hy, cf_lt]; exact T.out
          have hd : decide (cfT x y < 0) = false := decide_eq_false hv
          clear hx hy hia_ hic_
          go_wp2_with fail
          go_quiet_grown (first | (go_at_fn g; refine Calls.grown_of (hc _ _)))
          have S2 : Aside0 (SW encT w0 blk off d (Sort.grow (wr.drewN nq) osq)) := ⟨S1.out.grown nq osq⟩
          clear la lc hc S1
          generalize Sort.grow (wr.drewN nq) osq = w2 at S2 ⊢
          clear nq osq ea_ ec_
          go_wp2
          go_roundg (j - (h + 1))
          case measure => omega
          case rel => exact ⟨h + 1, j, rfl, rfl, by omega, by omega, hj, Nat.le_refl _, S2, ⟨.inr (by rw [show h + 1 - 1 = h from by omega, show p + 1 - (h + 1) = u from by omega]; have := T.out; omega), HP.out.2⟩⟩
      · have hltz : ¬ (i : Int) < (j : Int) := by omega
        obtain rfl : i = j := by omega
        obtain ⟨en, hen⟩ : ∃ q, q + i = n := ⟨n - i, by omega⟩
        have wen : IntKind.i64.wrap ((n : Int) - (i : Int)) = (en : Int) := by rw [IntKind.wrap_i64]; omega
        have hme : m ≤ en ∧ en ≤ b ∧ mid ≤ en ∧ i ≤ mid := by omega
        have hde : i = m ∨ m = en ∨ (i < m ∧ m < en) := by omega
        have hmid : i + (en - m) = mid := by omega
        have MS := Aside0.mk (fun (d1 : Array TI) (q : Rotated i m en d d1) => mer_step HM.out (show a ≤ i by omega) (show i ≤ m by omega) hme.1 hme.2.1 (fun k1 k2 => by
          rcases HP.out.2 with e | e
          · have := HSR.out; omega
          · rw [show en - 1 = p - i from by omega]; exact e) (fun k1 k2 => by
          rcases HP.out.1 with e | e
          · have := HSR.out; omega
          · rw [show en = p + 1 - i from by omega]; exact e) q)
        rw [hmid] at MS
        clear HSR HP
        by_cases e0 : i < m
        · have e0z : (i : Int) < (m : Int) := by omega
          by_cases f0 : m < en
          · have f0z : (m : Int) < (en : Int) := by omega
            by_cases e1 : a < i
            · have e1z : (a : Int) < (i : Int) := by omega
              by_cases f1 : i < mid
              · have f1z : (i : Int) < (mid : Int) := by omega
                by_cases e2 : mid < en
                · have e2z : (mid : Int) < (en : Int) := by omega
                  by_cases f2 : en < b
                  · have f2z : (en : Int) < (b : Int) := by omega
                    have HC1 := Aside0.mk (rotateT blk off cap i m en g d0 d w0 _ R hs S1.out (by omega) (by omega) (by omega) (by omega))
                    go_wp2_with (first | (go_at_call 91; (with_reducible refine HC1.out.mono ?_); rintro e' w2 ⟨rfl, d1, S2_, Q1, P0_⟩; have S2 := Aside0.mk S2_; have M := Aside0.mk (MS.out d1 Q1); have hs_d1 : d1.size = d.size := Q1.1; have P0 := Aside0.mk P0_; clear S2_ P0_ Q1; have HC2 := Aside0.mk (IH0.out a i mid d1 _ (by omega) (by omega) (by omega) (by rw [hs_d1]; omega) (by rw [hs_d1]; exact hs) S2.out M.out.1); rw [hs_d1] at HC2) | (go_at_call 90; (with_reducible refine HC2.out.mono ?_); rintro e' w3 ⟨rfl, d2, S3_, P1_⟩; have S3 := Aside0.mk S3_; have hs_d2 : d2.size = d.size := P1_.1.1.trans hs_d1; have P1 := Aside0.mk P1_; clear S3_ P1_; have HC3 := Aside0.mk (IH0.out mid en b d2 _ (by omega) (by omega) (by omega) (by rw [hs_d2]; omega) (by rw [hs_d2]; exact hs) S3.out (Mer.kept (by omega) M.out.2.1 P1.out.1)); rw [hs_d2] at HC3) | (go_at_call 90; (with_reducible refine HC3.out.mono ?_); rintro e' w4 ⟨rfl, d3, S4_, P2_⟩; have S4 := Aside0.mk S4_; have P2 := Aside0.mk P2_; clear S4_ P2_))
                    go_end0
                    exact ⟨rfl, d3, S4.out, symEnd (by omega) (by omega) (by omega) (by omega) (by omega) M.out.2.2 P0.out P1.out.1 P1.out.2 P2.out.1 P2.out.2⟩
                  · have f2z : ¬ (en : Int) < (b : Int) := by omega
                    have HC1 := Aside0.mk (rotateT blk off cap i m en g d0 d w0 _ R hs S1.out (by omega) (by omega) (by omega) (by omega))
                    go_wp2_with (first | (go_at_call 91; (with_reducible refine HC1.out.mono ?_); rintro e' w2 ⟨rfl, d1, S2_, Q1, P0_⟩; have S2 := Aside0.mk S2_; have M := Aside0.mk (MS.out d1 Q1); have hs_d1 : d1.size = d.size := Q1.1; have P0 := Aside0.mk P0_; clear S2_ P0_ Q1; have HC2 := Aside0.mk (IH0.out a i mid d1 _ (by omega) (by omega) (by omega) (by rw [hs_d1]; omega) (by rw [hs_d1]; exact hs) S2.out M.out.1); rw [hs_d1] at HC2) | (go_at_call 90; (with_reducible refine HC2.out.mono ?_); rintro e' w3 ⟨rfl, d2, S3_, P1_⟩; have S3 := Aside0.mk S3_; have hs_d2 : d2.size = d.size := P1_.1.1.trans hs_d1; have P1 := Aside0.mk P1_; clear S3_ P1_; have P2 := Aside0.mk (show Sort.PermIn mid b d2 d2 ∧ SortedT mid b d2 from ⟨Sort.permIn_refl _ _ _, Mer.triv (Mer.kept (by omega) M.out.2.1 P1.out.1) (by omega)⟩)))
                    go_end0
                    exact ⟨rfl, d2, S3.out, symEnd (by omega) (by omega) (by omega) (by omega) (by omega) M.out.2.2 P0.out P1.out.1 P1.out.2 P2.out.1 P2.out.2⟩
                · have e2z : ¬ (mid : Int) < (en : Int) := by omega
                  have HC1 := Aside0.mk (rotateT blk off cap i m en g d0 d w0 _ R hs S1.out (by omega) (by omega) (by omega) (by omega))
                  go_wp2_with (first | (go_at_call 91; (with_reducible refine HC1.out.mono ?_); rintro e' w2 ⟨rfl, d1, S2_, Q1, P0_⟩; have S2 := Aside0.mk S2_; have M := Aside0.mk (MS.out d1 Q1); have hs_d1 : d1.size = d.size := Q1.1; have P0 := Aside0.mk P0_; clear S2_ P0_ Q1; have HC2 := Aside0.mk (IH0.out a i mid d1 _ (by omega) (by omega) (by omega) (by rw [hs_d1]; omega) (by rw [hs_d1]; exact hs) S2.out M.out.1); rw [hs_d1] at HC2) | (go_at_call 90; (with_reducible refine HC2.out.mono ?_); rintro e' w3 ⟨rfl, d2, S3_, P1_⟩; have S3 := Aside0.mk S3_; have hs_d2 : d2.size = d.size := P1_.1.1.trans hs_d1; have P1 := Aside0.mk P1_; clear S3_ P1_; have P2 := Aside0.mk (show Sort.PermIn mid b d2 d2 ∧ SortedT mid b d2 from ⟨Sort.permIn_refl _ _ _, Mer.triv (Mer.kept (by omega) M.out.2.1 P1.out.1) (by omega)⟩)))
                  go_end0
                  exact ⟨rfl, d2, S3.out, symEnd (by omega) (by omega) (by omega) (by omega) (by omega) M.out.2.2 P0.out P1.out.1 P1.out.2 P2.out.1 P2.out.2⟩
              · have f1z : ¬ (i : Int) < (mid : Int) := by omega
                by_cases e2 : mid < en
                · have e2z : (mid : Int) < (en : Int) := by omega
                  by_cases f2 : en < b
                  · have f2z : (en : Int) < (b : Int) := by omega
                    have HC1 := Aside0.mk (rotateT blk off cap i m en g d0 d w0 _ R hs S1.out (by omega) (by omega) (by omega) (by omega))
                    go_wp2_with (first | (go_at_call 91; (with_reducible refine HC1.out.mono ?_); rintro e' w2 ⟨rfl, d1, S2_, Q1, P0_⟩; have S2 := Aside0.mk S2_; have M := Aside0.mk (MS.out d1 Q1); have hs_d1 : d1.size = d.size := Q1.1; have P0 := Aside0.mk P0_; clear S2_ P0_ Q1; have P1 := Aside0.mk (show Sort.PermIn a mid d1 d1 ∧ SortedT a mid d1 from ⟨Sort.permIn_refl _ _ _, Mer.triv M.out.1 (by omega)⟩); have HC3 := Aside0.mk (IH0.out mid en b d1 _ (by omega) (by omega) (by omega) (by rw [hs_d1]; omega) (by rw [hs_d1]; exact hs) S2.out (Mer.kept (by omega) M.out.2.1 P1.out.1)); rw [hs_d1] at HC3) | (go_at_call 90; (with_reducible refine HC3.out.mono ?_); rintro e' w4 ⟨rfl, d3, S4_, P2_⟩; have S4 := Aside0.mk S4_; have P2 := Aside0.mk P2_; clear S4_ P2_))
                    go_end0
                    exact ⟨rfl, d3, S4.out, symEnd (by omega) (by omega) (by omega) (by omega) (by omega) M.out.2.2 P0.out P1.out.1 P1.out.2 P2.out.1 P2.out.2⟩
                  · have f2z : ¬ (en : Int) < (b : Int) := by omega
                    have HC1 := Aside0.mk (rotateT blk off cap i m en g d0 d w0 _ R hs S1.out (by omega) (by omega) (by omega) (by omega))
                    go_wp2_with (go_at_call 91; (with_reducible refine HC1.out.mono ?_); rintro e' w2 ⟨rfl, d1, S2_, Q1, P0_⟩; have S2 := Aside0.mk S2_; have M := Aside0.mk (MS.out d1 Q1); have hs_d1 : d1.size = d.size := Q1.1; have P0 := Aside0.mk P0_; clear S2_ P0_ Q1; have P1 := Aside0.mk (show Sort.PermIn a mid d1 d1 ∧ SortedT a mid d1 from ⟨Sort.permIn_refl _ _ _, Mer.triv M.out.1 (by omega)⟩); have P2 := Aside0.mk (show Sort.PermIn mid b d1 d1 ∧ SortedT mid b d1 from ⟨Sort.permIn_refl _ _ _, Mer.triv (Mer.kept (by omega) M.out.2.1 P1.out.1) (by omega)⟩))
                    go_end0
                    exact ⟨rfl, d1, S2.out, symEnd (by omega) (by omega) (by omega) (by omega) (by omega) M.out.2.2 P0.out P1.out.1 P1.out.2 P2.out.1 P2.out.2⟩
                · have e2z : ¬ (mid : Int) < (en : Int) := by omega
                  have HC1 := Aside0.mk (rotateT blk off cap i m en g d0 d w0 _ R hs S1.out (by omega) (by omega) (by omega) (by omega))
                  go_wp2_with (go_at_call 91; (with_reducible refine HC1.out.mono ?_); rintro e' w2 ⟨rfl, d1, S2_, Q1, P0_⟩; have S2 := Aside0.mk S2_; have M := Aside0.mk (MS.out d1 Q1); have hs_d1 : d1.size = d.size := Q1.1; have P0 := Aside0.mk P0_; clear S2_ P0_ Q1; have P1 := Aside0.mk (show Sort.PermIn a mid d1 d1 ∧ SortedT a mid d1 from ⟨Sort.permIn_refl _ _ _, Mer.triv M.out.1 (by omega)⟩); have P2 := Aside0.mk (show Sort.PermIn mid b d1 d1 ∧ SortedT mid b d1 from ⟨Sort.permIn_refl _ _ _, Mer.triv (Mer.kept (by omega) M.out.2.1 P1.out.1) (by omega)⟩))
                  go_end0
                  exact ⟨rfl, d1, S2.out, symEnd (by omega) (by omega) (by omega) (by omega) (by omega) M.out.2.2 P0.out P1.out.1 P1.out.2 P2.out.1 P2.out.2⟩
            · have e1z : ¬ (a : Int) < (i : Int) := by omega
              by_cases e2 : mid < en
              · have e2z : (mid : Int) < (en : Int) := by omega
                by_cases f2 : en < b
                · have f2z : (en : Int) < (b : Int) := by omega
                  have HC1 := Aside0.mk (rotateT blk off cap i m en g d0 d w0 _ R hs S1.out (by omega) (by omega) (by omega) (by omega))
                  go_wp2_with (first | (go_at_call 91; (with_reducible refine HC1.out.mono ?_); rintro e' w2 ⟨rfl, d1, S2_, Q1, P0_⟩; have S2 := Aside0.mk S2_; have M := Aside0.mk (MS.out d1 Q1); have hs_d1 : d1.size = d.size := Q1.1; have P0 := Aside0.mk P0_; clear S2_ P0_ Q1; have P1 := Aside0.mk (show Sort.PermIn a mid d1 d1 ∧ SortedT a mid d1 from ⟨Sort.permIn_refl _ _ _, Mer.triv M.out.1 (by omega)⟩); have HC3 := Aside0.mk (IH0.out mid en b d1 _ (by omega) (by omega) (by omega) (by rw [hs_d1]; omega) (by rw [hs_d1]; exact hs) S2.out (Mer.kept (by omega) M.out.2.1 P1.out.1)); rw [hs_d1] at HC3) | (go_at_call 90; (with_reducible refine HC3.out.mono ?_); rintro e' w4 ⟨rfl, d3, S4_, P2_⟩; have S4 := Aside0.mk S4_; have P2 := Aside0.mk P2_; clear S4_ P2_))
                  go_end0
                  exact ⟨rfl, d3, S4.out, symEnd (by omega) (by omega) (by omega) (by omega) (by omega) M.out.2.2 P0.out P1.out.1 P1.out.2 P2.out.1 P2.out.2⟩
                · have f2z : ¬ (en : Int) < (b : Int) := by omega
                  have HC1 := Aside0.mk (rotateT blk off cap i m en g d0 d w0 _ R hs S1.out (by omega) (by omega) (by omega) (by omega))
                  go_wp2_with (go_at_call 91; (with_reducible refine HC1.out.mono ?_); rintro e' w2 ⟨rfl, d1, S2_, Q1, P0_⟩; have S2 := Aside0.mk S2_; have M := Aside0.mk (MS.out d1 Q1); have hs_d1 : d1.size = d.size := Q1.1; have P0 := Aside0.mk P0_; clear S2_ P0_ Q1; have P1 := Aside0.mk (show Sort.PermIn a mid d1 d1 ∧ SortedT a mid d1 from ⟨Sort.permIn_refl _ _ _, Mer.triv M.out.1 (by omega)⟩); have P2 := Aside0.mk (show Sort.PermIn mid b d1 d1 ∧ SortedT mid b d1 from ⟨Sort.permIn_refl _ _ _, Mer.triv (Mer.kept (by omega) M.out.2.1 P1.out.1) (by omega)⟩))
                  go_end0
                  exact ⟨rfl, d1, S2.out, symEnd (by omega) (by omega) (by omega) (by omega) (by omega) M.out.2.2 P0.out P1.out.1 P1.out.2 P2.out.1 P2.out.2⟩
              · have e2z : ¬ (mid : Int) < (en : Int) := by omega
                have HC1 := Aside0.mk (rotateT blk off cap i m en g d0 d w0 _ R hs S1.out (by omega) (by omega) (by omega) (by omega))
                go_wp2_with (go_at_call 91; (with_reducible refine HC1.out.mono ?_); rintro e' w2 ⟨rfl, d1, S2_, Q1, P0_⟩; have S2 := Aside0.mk S2_; have M := Aside0.mk (MS.out d1 Q1); have hs_d1 : d1.size = d.size := Q1.1; have P0 := Aside0.mk P0_; clear S2_ P0_ Q1; have P1 := Aside0.mk (show Sort.PermIn a mid d1 d1 ∧ SortedT a mid d1 from ⟨Sort.permIn_refl _ _ _, Mer.triv M.out.1 (by omega)⟩); have P2 := Aside0.mk (show Sort.PermIn mid b d1 d1 ∧ SortedT mid b d1 from ⟨Sort.permIn_refl _ _ _, Mer.triv (Mer.kept (by omega) M.out.2.1 P1.out.1) (by omega)⟩))
                go_end0
                exact ⟨rfl, d1, S2.out, symEnd (by omega) (by omega) (by omega) (by omega) (by omega) M.out.2.2 P0.out P1.out.1 P1.out.2 P2.out.1 P2.out.2⟩
          · have f0z : ¬ (m : Int) < (en : Int) := by omega
            by_cases e1 : a < i
            · have e1z : (a : Int) < (i : Int) := by omega
              by_cases f1 : i < mid
              · have f1z : (i : Int) < (mid : Int) := by omega
                by_cases e2 : mid < en
                · have e2z : (mid : Int) < (en : Int) := by omega
                  by_cases f2 : en < b
                  · have f2z : (en : Int) < (b : Int) := by omega
                    have M := Aside0.mk (MS.out d (Rotated.none d (by omega)))
                    have P0 := Aside0.mk (show Sort.PermIn i en d d from Sort.permIn_refl _ _ _)
                    have HC2 := Aside0.mk (IH0.out a i mid d _ (by omega) (by omega) (by omega) (by omega) (by omega) S1.out M.out.1)
                    go_wp2_with (first | (go_at_call 90; (with_reducible refine HC2.out.mono ?_); rintro e' w3 ⟨rfl, d2, S3_, P1_⟩; have S3 := Aside0.mk S3_; have hs_d2 : d2.size = d.size := P1_.1.1.trans rfl; have P1 := Aside0.mk P1_; clear S3_ P1_; have HC3 := Aside0.mk (IH0.out mid en b d2 _ (by omega) (by omega) (by omega) (by rw [hs_d2]; omega) (by rw [hs_d2]; exact hs) S3.out (Mer.kept (by omega) M.out.2.1 P1.out.1)); rw [hs_d2] at HC3) | (go_at_call 90; (with_reducible refine HC3.out.mono ?_); rintro e' w4 ⟨rfl, d3, S4_, P2_⟩; have S4 := Aside0.mk S4_; have P2 := Aside0.mk P2_; clear S4_ P2_))
                    go_end0
                    exact ⟨rfl, d3, S4.out, symEnd (by omega) (by omega) (by omega) (by omega) (by omega) M.out.2.2 P0.out P1.out.1 P1.out.2 P2.out.1 P2.out.2⟩
                  · have f2z : ¬ (en : Int) < (b : Int) := by omega
                    have M := Aside0.mk (MS.out d (Rotated.none d (by omega)))
                    have P0 := Aside0.mk (show Sort.PermIn i en d d from Sort.permIn_refl _ _ _)
                    have HC2 := Aside0.mk (IH0.out a i mid d _ (by omega) (by omega) (by omega) (by omega) (by omega) S1.out M.out.1)
                    go_wp2_with (go_at_call 90; (with_reducible refine HC2.out.mono ?_); rintro e' w3 ⟨rfl, d2, S3_, P1_⟩; have S3 := Aside0.mk S3_; have hs_d2 : d2.size = d.size := P1_.1.1.trans rfl; have P1 := Aside0.mk P1_; clear S3_ P1_; have P2 := Aside0.mk (show Sort.PermIn mid b d2 d2 ∧ SortedT mid b d2 from ⟨Sort.permIn_refl _ _ _, Mer.triv (Mer.kept (by omega) M.out.2.1 P1.out.1) (by omega)⟩))
                    go_end0
                    exact ⟨rfl, d2, S3.out, symEnd (by omega) (by omega) (by omega) (by omega) (by omega) M.out.2.2 P0.out P1.out.1 P1.out.2 P2.out.1 P2.out.2⟩
                · have e2z : ¬ (mid : Int) < (en : Int) := by omega
                  have M := Aside0.mk (MS.out d (Rotated.none d (by omega)))
                  have P0 := Aside0.mk (show Sort.PermIn i en d d from Sort.permIn_refl _ _ _)
                  have HC2 := Aside0.mk (IH0.out a i mid d _ (by omega) (by omega) (by omega) (by omega) (by omega) S1.out M.out.1)
                  go_wp2_with (go_at_call 90; (with_reducible refine HC2.out.mono ?_); rintro e' w3 ⟨rfl, d2, S3_, P1_⟩; have S3 := Aside0.mk S3_; have hs_d2 : d2.size = d.size := P1_.1.1.trans rfl; have P1 := Aside0.mk P1_; clear S3_ P1_; have P2 := Aside0.mk (show Sort.PermIn mid b d2 d2 ∧ SortedT mid b d2 from ⟨Sort.permIn_refl _ _ _, Mer.triv (Mer.kept (by omega) M.out.2.1 P1.out.1) (by omega)⟩))
                  go_end0
                  exact ⟨rfl, d2, S3.out, symEnd (by omega) (by omega) (by omega) (by omega) (by omega) M.out.2.2 P0.out P1.out.1 P1.out.2 P2.out.1 P2.out.2⟩
              · have f1z : ¬ (i : Int) < (mid : Int) := by omega
                by_cases e2 : mid < en
                · have e2z : (mid : Int) < (en : Int) := by omega
                  by_cases f2 : en < b
                  · have f2z : (en : Int) < (b : Int) := by omega
                    have M := Aside0.mk (MS.out d (Rotated.none d (by omega)))
                    have P0 := Aside0.mk (show Sort.PermIn i en d d from Sort.permIn_refl _ _ _)
                    have P1 := Aside0.mk (show Sort.PermIn a mid d d ∧ SortedT a mid d from ⟨Sort.permIn_refl _ _ _, Mer.triv M.out.1 (by omega)⟩)
                    have HC3 := Aside0.mk (IH0.out mid en b d _ (by omega) (by omega) (by omega) (by omega) (by omega) S1.out (Mer.kept (by omega) M.out.2.1 P1.out.1))
                    go_wp2_with (go_at_call 90; (with_reducible refine HC3.out.mono ?_); rintro e' w4 ⟨rfl, d3, S4_, P2_⟩; have S4 := Aside0.mk S4_; have P2 := Aside0.mk P2_; clear S4_ P2_)
                    go_end0
                    exact ⟨rfl, d3, S4.out, symEnd (by omega) (by omega) (by omega) (by omega) (by omega) M.out.2.2 P0.out P1.out.1 P1.out.2 P2.out.1 P2.out.2⟩
                  · have f2z : ¬ (en : Int) < (b : Int) := by omega
                    have M := Aside0.mk (MS.out d (Rotated.none d (by omega)))
                    have P0 := Aside0.mk (show Sort.PermIn i en d d from Sort.permIn_refl _ _ _)
                    have P1 := Aside0.mk (show Sort.PermIn a mid d d ∧ SortedT a mid d from ⟨Sort.permIn_refl _ _ _, Mer.triv M.out.1 (by omega)⟩)
                    have P2 := Aside0.mk (show Sort.PermIn mid b d d ∧ SortedT mid b d from ⟨Sort.permIn_refl _ _ _, Mer.triv (Mer.kept (by omega) M.out.2.1 P1.out.1) (by omega)⟩)
                    go_wp2
                    go_end0
                    exact ⟨rfl, d, S1.out, symEnd (by omega) (by omega) (by omega) (by omega) (by omega) M.out.2.2 P0.out P1.out.1 P1.out.2 P2.out.1 P2.out.2⟩
                · have e2z : ¬ (mid : Int) < (en : Int) := by omega
                  have M := Aside0.mk (MS.out d (Rotated.none d (by omega)))
                  have P0 := Aside0.mk (show Sort.PermIn i en d d from Sort.permIn_refl _ _ _)
                  have P1 := Aside0.mk (show Sort.PermIn a mid d d ∧ SortedT a mid d from ⟨Sort.permIn_refl _ _ _, Mer.triv M.out.1 (by omega)⟩)
                  have P2 := Aside0.mk (show Sort.PermIn mid b d d ∧ SortedT mid b d from ⟨Sort.permIn_refl _ _ _, Mer.triv (Mer.kept (by omega) M.out.2.1 P1.out.1) (by omega)⟩)
                  go_wp2
                  go_end0
                  exact ⟨rfl, d, S1.out, symEnd (by omega) (by omega) (by omega) (by omega) (by omega) M.out.2.2 P0.out P1.out.1 P1.out.2 P2.out.1 P2.out.2⟩
            · have e1z : ¬ (a : Int) < (i : Int) := by omega
              by_cases e2 : mid < en
              · have e2z : (mid : Int) < (en : Int) := by omega
                by_cases f2 : en < b
                · have f2z : (en : Int) < (b : Int) := by omega
                  have M := Aside0.mk (MS.out d (Rotated.none d (by omega)))
                  have P0 := Aside0.mk (show Sort.PermIn i en d d from Sort.permIn_refl _ _ _)
                  have P1 := Aside0.mk (show Sort.PermIn a mid d d ∧ SortedT a mid d from ⟨Sort.permIn_refl _ _ _, Mer.triv M.out.1 (by omega)⟩)
                  have HC3 := Aside0.mk (IH0.out mid en b d _ (by omega) (by omega) (by omega) (by omega) (by omega) S1.out (Mer.kept (by omega) M.out.2.1 P1.out.1))
                  go_wp2_with (go_at_call 90; (with_reducible refine HC3.out.mono ?_); rintro e' w4 ⟨rfl, d3, S4_, P2_⟩; have S4 := Aside0.mk S4_; have P2 := Aside0.mk P2_; clear S4_ P2_)
                  go_end0
                  exact ⟨rfl, d3, S4.out, symEnd (by omega) (by omega) (by omega) (by omega) (by omega) M.out.2.2 P0.out P1.out.1 P1.out.2 P2.out.1 P2.out.2⟩
                · have f2z : ¬ (en : Int) < (b : Int) := by omega
                  have M := Aside0.mk (MS.out d (Rotated.none d (by omega)))
                  have P0 := Aside0.mk (show Sort.PermIn i en d d from Sort.permIn_refl _ _ _)
                  have P1 := Aside0.mk (show Sort.PermIn a mid d d ∧ SortedT a mid d from ⟨Sort.permIn_refl _ _ _, Mer.triv M.out.1 (by omega)⟩)
                  have P2 := Aside0.mk (show Sort.PermIn mid b d d ∧ SortedT mid b d from ⟨Sort.permIn_refl _ _ _, Mer.triv (Mer.kept (by omega) M.out.2.1 P1.out.1) (by omega)⟩)
                  go_wp2
                  go_end0
                  exact ⟨rfl, d, S1.out, symEnd (by omega) (by omega) (by omega) (by omega) (by omega) M.out.2.2 P0.out P1.out.1 P1.out.2 P2.out.1 P2.out.2⟩
              · have e2z : ¬ (mid : Int) < (en : Int) := by omega
                have M := Aside0.mk (MS.out d (Rotated.none d (by omega)))
                have P0 := Aside0.mk (show Sort.PermIn i en d d from Sort.permIn_refl _ _ _)
                have P1 := Aside0.mk (show Sort.PermIn a mid d d ∧ SortedT a mid d from ⟨Sort.permIn_refl _ _ _, Mer.triv M.out.1 (by omega)⟩)
                have P2 := Aside0.mk (show Sort.PermIn mid b d d ∧ SortedT mid b d from ⟨Sort.permIn_refl _ _ _, Mer.triv (Mer.kept (by omega) M.out.2.1 P1.out.1) (by omega)⟩)
                go_wp2
                go_end0
                exact ⟨rfl, d, S1.out, symEnd (by omega) (by omega) (by omega) (by omega) (by omega) M.out.2.2 P0.out P1.out.1 P1.out.2 P2.out.1 P2.out.2⟩
        · have e0z : ¬ (i : Int) < (m : Int) := by omega
          by_cases e1 : a < i
          · have e1z : (a : Int) < (i : Int) := by omega
            by_cases f1 : i < mid
            · have f1z : (i : Int) < (mid : Int) := by omega
              by_cases e2 : mid < en
              · have e2z : (mid : Int) < (en : Int) := by omega
                by_cases f2 : en < b
                · have f2z : (en : Int) < (b : Int) := by omega
                  have M := Aside0.mk (MS.out d (Rotated.none d (by omega)))
                  have P0 := Aside0.mk (show Sort.PermIn i en d d from Sort.permIn_refl _ _ _)
                  have HC2 := Aside0.mk (IH0.out a i mid d _ (by omega) (by omega) (by omega) (by omega) (by omega) S1.out M.out.1)
                  go_wp2_with (first | (go_at_call 90; (with_reducible refine HC2.out.mono ?_); rintro e' w3 ⟨rfl, d2, S3_, P1_⟩; have S3 := Aside0.mk S3_; have hs_d2 : d2.size = d.size := P1_.1.1.trans rfl; have P1 := Aside0.mk P1_; clear S3_ P1_; have HC3 := Aside0.mk (IH0.out mid en b d2 _ (by omega) (by omega) (by omega) (by rw [hs_d2]; omega) (by rw [hs_d2]; exact hs) S3.out (Mer.kept (by omega) M.out.2.1 P1.out.1)); rw [hs_d2] at HC3) | (go_at_call 90; (with_reducible refine HC3.out.mono ?_); rintro e' w4 ⟨rfl, d3, S4_, P2_⟩; have S4 := Aside0.mk S4_; have P2 := Aside0.mk P2_; clear S4_ P2_))
                  go_end0
                  exact ⟨rfl, d3, S4.out, symEnd (by omega) (by omega) (by omega) (by omega) (by omega) M.out.2.2 P0.out P1.out.1 P1.out.2 P2.out.1 P2.out.2⟩
                · have f2z : ¬ (en : Int) < (b : Int) := by omega
                  have M := Aside0.mk (MS.out d (Rotated.none d (by omega)))
                  have P0 := Aside0.mk (show Sort.PermIn i en d d from Sort.permIn_refl _ _ _)
                  have HC2 := Aside0.mk (IH0.out a i mid d _ (by omega) (by omega) (by omega) (by omega) (by omega) S1.out M.out.1)
                  go_wp2_with (go_at_call 90; (with_reducible refine HC2.out.mono ?_); rintro e' w3 ⟨rfl, d2, S3_, P1_⟩; have S3 := Aside0.mk S3_; have hs_d2 : d2.size = d.size := P1_.1.1.trans rfl; have P1 := Aside0.mk P1_; clear S3_ P1_; have P2 := Aside0.mk (show Sort.PermIn mid b d2 d2 ∧ SortedT mid b d2 from ⟨Sort.permIn_refl _ _ _, Mer.triv (Mer.kept (by omega) M.out.2.1 P1.out.1) (by omega)⟩))
                  go_end0
                  exact ⟨rfl, d2, S3.out, symEnd (by omega) (by omega) (by omega) (by omega) (by omega) M.out.2.2 P0.out P1.out.1 P1.out.2 P2.out.1 P2.out.2⟩
              · have e2z : ¬ (mid : Int) < (en : Int) := by omega
                have M := Aside0.mk (MS.out d (Rotated.none d (by omega)))
                have P0 := Aside0.mk (show Sort.PermIn i en d d from Sort.permIn_refl _ _ _)
                have HC2 := Aside0.mk (IH0.out a i mid d _ (by omega) (by omega) (by omega) (by omega) (by omega) S1.out M.out.1)
                go_wp2_with (go_at_call 90; (with_reducible refine HC2.out.mono ?_); rintro e' w3 ⟨rfl, d2, S3_, P1_⟩; have S3 := Aside0.mk S3_; have hs_d2 : d2.size = d.size := P1_.1.1.trans rfl; have P1 := Aside0.mk P1_; clear S3_ P1_; have P2 := Aside0.mk (show Sort.PermIn mid b d2 d2 ∧ SortedT mid b d2 from ⟨Sort.permIn_refl _ _ _, Mer.triv (Mer.kept (by omega) M.out.2.1 P1.out.1) (by omega)⟩))
                go_end0
                exact ⟨rfl, d2, S3.out, symEnd (by omega) (by omega) (by omega) (by omega) (by omega) M.out.2.2 P0.out P1.out.1 P1.out.2 P2.out.1 P2.out.2⟩
            · have f1z : ¬ (i : Int) < (mid : Int) := by omega
              by_cases e2 : mid < en
              · have e2z : (mid : Int) < (en : Int) := by omega
                by_cases f2 : en < b
                · have f2z : (en : Int) < (b : Int) := by omega
                  have M := Aside0.mk (MS.out d (Rotated.none d (by omega)))
                  have P0 := Aside0.mk (show Sort.PermIn i en d d from Sort.permIn_refl _ _ _)
                  have P1 := Aside0.mk (show Sort.PermIn a mid d d ∧ SortedT a mid d from ⟨Sort.permIn_refl _ _ _, Mer.triv M.out.1 (by omega)⟩)
                  have HC3 := Aside0.mk (IH0.out mid en b d _ (by omega) (by omega) (by omega) (by omega) (by omega) S1.out (Mer.kept (by omega) M.out.2.1 P1.out.1))
                  go_wp2_with (go_at_call 90; (with_reducible refine HC3.out.mono ?_); rintro e' w4 ⟨rfl, d3, S4_, P2_⟩; have S4 := Aside0.mk S4_; have P2 := Aside0.mk P2_; clear S4_ P2_)
                  go_end0
                  exact ⟨rfl, d3, S4.out, symEnd (by omega) (by omega) (by omega) (by omega) (by omega) M.out.2.2 P0.out P1.out.1 P1.out.2 P2.out.1 P2.out.2⟩
                · have f2z : ¬ (en : Int) < (b : Int) := by omega
                  have M := Aside0.mk (MS.out d (Rotated.none d (by omega)))
                  have P0 := Aside0.mk (show Sort.PermIn i en d d from Sort.permIn_refl _ _ _)
                  have P1 := Aside0.mk (show Sort.PermIn a mid d d ∧ SortedT a mid d from ⟨Sort.permIn_refl _ _ _, Mer.triv M.out.1 (by omega)⟩)
                  have P2 := Aside0.mk (show Sort.PermIn mid b d d ∧ SortedT mid b d from ⟨Sort.permIn_refl _ _ _, Mer.triv (Mer.kept (by omega) M.out.2.1 P1.out.1) (by omega)⟩)
                  go_wp2
                  go_end0
                  exact ⟨rfl, d, S1.out, symEnd (by omega) (by omega) (by omega) (by omega) (by omega) M.out.2.2 P0.out P1.out.1 P1.out.2 P2.out.1 P2.out.2⟩
              · have e2z : ¬ (mid : Int) < (en : Int) := by omega
                have M := Aside0.mk (MS.out d (Rotated.none d (by omega)))
                have P0 := Aside0.mk (show Sort.PermIn i en d d from Sort.permIn_refl _ _ _)
                have P1 := Aside0.mk (show Sort.PermIn a mid d d ∧ SortedT a mid d from ⟨Sort.permIn_refl _ _ _, Mer.triv M.out.1 (by omega)⟩)
                have P2 := Aside0.mk (show Sort.PermIn mid b d d ∧ SortedT mid b d from ⟨Sort.permIn_refl _ _ _, Mer.triv (Mer.kept (by omega) M.out.2.1 P1.out.1) (by omega)⟩)
                go_wp2
                go_end0
                exact ⟨rfl, d, S1.out, symEnd (by omega) (by omega) (by omega) (by omega) (by omega) M.out.2.2 P0.out P1.out.1 P1.out.2 P2.out.1 P2.out.2⟩
          · have e1z : ¬ (a : Int) < (i : Int) := by omega
            by_cases e2 : mid < en
            · have e2z : (mid : Int) < (en : Int) := by omega
              by_cases f2 : en < b
              · have f2z : (en : Int) < (b : Int) := by omega
                have M := Aside0.mk (MS.out d (Rotated.none d (by omega)))
                have P0 := Aside0.mk (show Sort.PermIn i en d d from Sort.permIn_refl _ _ _)
                have P1 := Aside0.mk (show Sort.PermIn a mid d d ∧ SortedT a mid d from ⟨Sort.permIn_refl _ _ _, Mer.triv M.out.1 (by omega)⟩)
                have HC3 := Aside0.mk (IH0.out mid en b d _ (by omega) (by omega) (by omega) (by omega) (by omega) S1.out (Mer.kept (by omega) M.out.2.1 P1.out.1))
                go_wp2_with (go_at_call 90; (with_reducible refine HC3.out.mono ?_); rintro e' w4 ⟨rfl, d3, S4_, P2_⟩; have S4 := Aside0.mk S4_; have P2 := Aside0.mk P2_; clear S4_ P2_)
                go_end0
                exact ⟨rfl, d3, S4.out, symEnd (by omega) (by omega) (by omega) (by omega) (by omega) M.out.2.2 P0.out P1.out.1 P1.out.2 P2.out.1 P2.out.2⟩
              · have f2z : ¬ (en : Int) < (b : Int) := by omega
                have M := Aside0.mk (MS.out d (Rotated.none d (by omega)))
                have P0 := Aside0.mk (show Sort.PermIn i en d d from Sort.permIn_refl _ _ _)
                have P1 := Aside0.mk (show Sort.PermIn a mid d d ∧ SortedT a mid d from ⟨Sort.permIn_refl _ _ _, Mer.triv M.out.1 (by omega)⟩)
                have P2 := Aside0.mk (show Sort.PermIn mid b d d ∧ SortedT mid b d from ⟨Sort.permIn_refl _ _ _, Mer.triv (Mer.kept (by omega) M.out.2.1 P1.out.1) (by omega)⟩)
                go_wp2
                go_end0
                exact ⟨rfl, d, S1.out, symEnd (by omega) (by omega) (by omega) (by omega) (by omega) M.out.2.2 P0.out P1.out.1 P1.out.2 P2.out.1 P2.out.2⟩
            · have e2z : ¬ (mid : Int) < (en : Int) := by omega
              have M := Aside0.mk (MS.out d (Rotated.none d (by omega)))
              have P0 := Aside0.mk (show Sort.PermIn i en d d from Sort.permIn_refl _ _ _)
              have P1 := Aside0.mk (show Sort.PermIn a mid d d ∧ SortedT a mid d from ⟨Sort.permIn_refl _ _ _, Mer.triv M.out.1 (by omega)⟩)
              have P2 := Aside0.mk (show Sort.PermIn mid b d d ∧ SortedT mid b d from ⟨Sort.permIn_refl _ _ _, Mer.triv (Mer.kept (by omega) M.out.2.1 P1.out.1) (by omega)⟩)
              go_wp2
              go_end0
              exact ⟨rfl, d, S1.out, symEnd (by omega) (by omega) (by omega) (by omega) (by omega) M.out.2.2 P0.out P1.out.1 P1.out.2 P2.out.1 P2.out.2⟩
theorem symT (blk off cap g : Nat) (d0 : Array TI) (w0 : World) (R : Row1 encT w0 blk off d0) (hcmp : CmpLays1 Try.prog g #[] encT cfT blk off d0.size w0) (eg : ∀ args w, (callFunc g args).run Try.prog w = .ok (.enter g args) w) (hsz : d0.size < 1000000) : ∀ (N a m b : Nat) (d : Array TI) (w : World), b - a ≤ N → a < m → m < b → b ≤ d.size → d0.size = d.size → SW encT w0 blk off d w → Mer a m b d →
    Calls Try.prog 90 #[.slice (some ⟨blk, off, none⟩) d.size cap, .int .i64 a, .int .i64 m, .int .i64 b, .func (.func g) #[] #[]] w fun e' w' => e' = .returned (.tuple #[]) ∧ ∃ d', SW encT w0 blk off d' w' ∧ Sort.PermIn a b d d' ∧ SortedT a b d'
  | 0, a, m, b, d, w, hN, h1, h2, _, _, _, _ => by omega
  | N + 1, a, m, b, d, w, hN, h1, h2, h3, hs, S, HM => by
    by_cases ca : m - a = 1
    · exact symA blk off cap g d0 w0 R hcmp eg hsz a m b d w h1 h2 h3 hs S HM ca
    · by_cases cb : b - m = 1
      · exact symB blk off cap g d0 w0 R hcmp eg hsz a m b d w h1 h2 h3 hs S HM ca (by omega)
      · exact symC blk off cap g d0 w0 R hcmp eg hsz N (symT blk off cap g d0 w0 R hcmp eg hsz N) a m b d w h1 h2 h3 hs S HM hN ca cb

theorem insT (blk off cap g : Nat) (d0 : Array TI) (w0 : World) (R : Row1 encT w0 blk off d0) (hcmp : CmpLays1 Try.prog g #[] encT cfT blk off d0.size w0) (eg : ∀ args w, (callFunc g args).run Try.prog w = .ok (.enter g args) w) (hsz : d0.size < 1000000) (a b : Nat) (d : Array TI) (w : World) (hs : d0.size = d.size) (S : SW encT w0 blk off d w) (hab : a ≤ b) (hb : b ≤ d.size) (ht : ∀ k l, a ≤ k → k < l → l < b → d[k]!.t ≤ d[l]!.t) :
    Calls Try.prog 89 #[.slice (some ⟨blk, off, none⟩) d.size cap, .int .i64 a, .int .i64 b, .func (.func g) #[] #[]] w fun e' w' => e' = .returned (.tuple #[]) ∧ ∃ d', SW encT w0 blk off d' w' ∧ Sort.PermIn a b d d' ∧ SortedT a b d' := by
  have h := Any.insertionSortCmpFunc_s lIns encT cfT g #[] blk off cap a b d0 d w0 w eg hcmp R hs S hab hb (by omega)
  refine Calls.mono h ?_
  rintro e' w' ⟨rfl, q⟩
  exact ⟨rfl, _, q, ins_sorts hab hb ht⟩
set_option maxHeartbeats 8000000 in
set_option maxRecDepth 1000000 in
theorem stableT (blk off cap g : Nat) (d0 : Array TI) (w0 : World) (R : Row1 encT w0 blk off d0) (hcmp : CmpLays1 Try.prog g #[] encT cfT blk off d0.size w0) (eg : ∀ args w, (callFunc g args).run Try.prog w = .ok (.enter g args) w) (hsz : d0.size < 1000000) (d : Array TI) (w : World) (hs : d0.size = d.size) (S : SW encT w0 blk off d w) (H : ∀ c, Bnd c d.size d) :
    Calls Try.prog 85 #[.slice (some ⟨blk, off, none⟩) d.size cap, .int .i64 (d.size : Int), .func (.func g) #[] #[]] w fun e' w' => e' = .returned (.tuple #[]) ∧ ∃ d', SW encT w0 blk off d' w' ∧ Sort.PermIn 0 d.size d d' ∧ SortedT 0 d.size d' := by
  have S0 : Aside0 (SW encT w0 blk off d w) := ⟨S⟩
  have HH := Aside0.mk H
  have HI := Aside0.mk (insT blk off cap g d0 w0 R hcmp eg hsz)
  have HY := Aside0.mk (fun a m b d w => symT blk off cap g d0 w0 R hcmp eg hsz (b - a) a m b d w (Nat.le_refl _))
  clear S H hcmp R eg
  go_enter Try.func85, Try.ntmps85
  go_wp2
  go_loopg [7, 8] d.size (fun kx s7 s8 wr => ∃ (a b : Nat) (dk : Array TI), s7 = .int .i64 (a : Int) ∧ s8 = .int .i64 (b : Int) ∧ (a + 20 ≤ b ∧ b ≤ a + 20) ∧ a ≤ d.size ∧ d.size - a ≤ kx ∧ dk.size = d.size ∧ Aside0 (SW encT w0 blk off dk wr) ∧ Aside0 (Ph1 a d.size d dk))
  case atStart => exact ⟨0, 20, d, rfl, rfl, by omega, by omega, by omega, rfl, S0, ⟨Ph1.start HH.out⟩⟩
  case round =>
    clear S0
    obtain ⟨a, b, dk, rfl, rfl, hab, han, hkx, hds, S1, HP⟩ := hrel
    by_cases hlt : b ≤ d.size
    · have hltz : (b : Int) ≤ (d.size : Int) := by omega
      have HC := Aside0.mk (HI.out a b dk _ (by omega) S1.out (by omega) (by omega) (HP.out.asc HH.out b hlt))
      rw [hds] at HC
      have wb : IntKind.i64.wrap ((b : Int) + 20) = ((b + 20 : Nat) : Int) := by rw [IntKind.wrap_i64]; omega
      clear S1
      go_wp2_with (go_at_call 89; (with_reducible refine HC.out.mono ?_); rintro e' w2 ⟨rfl, d2, S2_, P2_⟩; have S2 := Aside0.mk S2_; have P2 := Aside0.mk P2_; clear S2_ P2_)
      go_roundg (d.size - b)
      case measure => omega
      case rel =>
        have eb : b = a + 20 := by omega
        exact ⟨b, b + 20, d2, rfl, rfl, by omega, hlt, Nat.le_refl _, P2.out.1.1.trans hds, S2, ⟨by have p := P2.out; rw [eb] at p ⊢; exact HP.out.step p.1 p.2 (by omega) (by omega)⟩⟩
    · have hltz : ¬ (b : Int) ≤ (d.size : Int) := by omega
      have HC := Aside0.mk (HI.out a d.size dk _ (by omega) S1.out han (by omega) (HP.out.asc HH.out _ (Nat.le_refl _)))
      rw [hds] at HC
      clear S1
      go_wp2_with (go_at_call 89; (with_reducible refine HC.out.mono ?_); rintro e' w2 ⟨rfl, d2, S2_, P2_⟩; have S2 := Aside0.mk S2_; have P2 := Aside0.mk (HP.out.last P2_.1 P2_.2 han (by omega) (by omega)); have hds2 : d2.size = d.size := P2_.1.1.trans hds; clear S2_ P2_)
      clear HC HP hltz hlt hab hkx han hds
      go_loopg [6] d.size (fun kx s6 wr => ∃ (s : Nat) (dk : Array TI), s6 = .int .i64 (s : Int) ∧ 20 ≤ s ∧ d.size - s ≤ kx ∧ dk.size = d.size ∧ Aside0 (SW encT w0 blk off dk wr) ∧ Aside0 (SB s d.size d dk))
      case atStart => exact ⟨20, d2, rfl, by omega, by omega, hds2, S2, P2⟩
      case round =>
        clear S2 P2 hds2
        obtain ⟨s, dk, rfl, hs20, hkx, hds, S1, HB⟩ := hrel
        by_cases hlt : s < d.size
        · have hltz : (s : Int) < (d.size : Int) := by omega
          obtain ⟨t, ht⟩ : ∃ q, q = 2 * s := ⟨_, rfl⟩
          have HT := Aside0.mk ht
          have ht2 : 2 * s ≤ t ∧ t ≤ 2 * s := by omega
          clear ht
          have w2s : IntKind.i64.wrap (2 * (s : Int)) = (t : Int) := by rw [IntKind.wrap_i64]; omega
          have ws2 : IntKind.i64.wrap ((s : Int) * 2) = (t : Int) := by rw [IntKind.wrap_i64]; omega
          go_wp2
          go_loopg [7, 8] d.size (fun kx s7 s8 wr => ∃ (a b : Nat) (dk : Array TI), s7 = .int .i64 (a : Int) ∧ s8 = .int .i64 (b : Int) ∧ (a + t ≤ b ∧ b ≤ a + t) ∧ a ≤ d.size ∧ d.size - a ≤ kx ∧ dk.size = d.size ∧ Aside0 (SW encT w0 blk off dk wr) ∧ Aside0 (Ph2 s a d.size d dk))
          case atStart => exact ⟨0, t, dk, rfl, rfl, by omega, by omega, by omega, hds, S1, ⟨Ph2.start HB.out⟩⟩
          case round =>
            clear S1 HB hds
            obtain ⟨a, b, dk, rfl, rfl, hab, han, hkx2, hds, S1, HP⟩ := hrel
            obtain ⟨m, hm⟩ : ∃ q, q = a + s := ⟨_, rfl⟩
            have HMs := Aside0.mk hm
            have hm2 : a + s ≤ m ∧ m ≤ a + s := by omega
            clear hm
            have wm : IntKind.i64.wrap ((a : Int) + (s : Int)) = (m : Int) := by rw [IntKind.wrap_i64]; omega
            by_cases hlb : b ≤ d.size
            · have hlbz : (b : Int) ≤ (d.size : Int) := by omega
              have HC := Aside0.mk (HY.out a m b dk _ (by omega) (by omega) (by omega) (by omega) S1.out (by rw [HMs.out]; exact HP.out.mer (by omega) hlb (by omega)))
              rw [hds] at HC
              have wb : IntKind.i64.wrap ((b : Int) + (t : Int)) = ((b + t : Nat) : Int) := by rw [IntKind.wrap_i64]; omega
              clear S1
              go_wp2_with (go_at_call 90; (with_reducible refine HC.out.mono ?_); rintro e' w2 ⟨rfl, d2, S2_, P2_⟩; have S2 := Aside0.mk S2_; have P2 := Aside0.mk P2_; clear S2_ P2_)
              go_roundg (d.size - b)
              case measure => omega
              case rel =>
                have eb : b = a + 2 * s := by omega
                exact ⟨b, b + t, d2, rfl, rfl, by omega, hlb, Nat.le_refl _, P2.out.1.1.trans hds, S2, ⟨by have p := P2.out; rw [eb] at p ⊢; exact HP.out.step p.1 p.2 (by omega) (by omega)⟩⟩
            · have hlbz : ¬ (b : Int) ≤ (d.size : Int) := by omega
              by_cases hmn : m < d.size
              · have hmz : (m : Int) < (d.size : Int) := by omega
                have HC := Aside0.mk (HY.out a m d.size dk _ (by omega) hmn (by omega) (by omega) S1.out (by rw [HMs.out]; exact HP.out.mer (by omega) (Nat.le_refl _) (by omega)))
                rw [hds] at HC
                clear S1
                go_wp2_with (go_at_call 90; (with_reducible refine HC.out.mono ?_); rintro e' w2 ⟨rfl, d2, S2_, P2_⟩; have S2 := Aside0.mk S2_; have P2 := Aside0.mk P2_; clear S2_ P2_)
                go_roundg (d.size - t)
                case measure => omega
                case rel => exact ⟨t, d2, rfl, by omega, Nat.le_refl _, P2.out.1.1.trans hds, S2, ⟨by rw [HT.out]; exact HP.out.last P2.out.1 P2.out.2 han (by omega) (by omega)⟩⟩
              · have hmz : ¬ (m : Int) < (d.size : Int) := by omega
                go_wp2
                go_roundg (d.size - t)
                case measure => omega
                case rel => exact ⟨t, dk, rfl, by omega, Nat.le_refl _, hds, S1, ⟨by rw [HT.out]; exact HP.out.stop han (by omega) (by omega) (by omega)⟩⟩
        · have hltz : ¬ (s : Int) < (d.size : Int) := by omega
          go_wp2
          go_end0
          exact ⟨rfl, dk, S1.out, HB.out.pm, HB.out.done (by omega)⟩

end Go.Proofs.Ytaeaeejfaffbpaa.HFnExactSortMarks
