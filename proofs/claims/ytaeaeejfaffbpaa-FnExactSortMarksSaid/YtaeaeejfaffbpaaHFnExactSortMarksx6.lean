/- Written by wip/pr.py of this session, for the law FnExactSortMarks: Lean functions with the answers of the program's, and the proofs of that; where the kit's print has no word, by hand. -/
import Derived.Test.YtaeaeejfaffbpaaHFnExactSortMarksx0
import Derived.Test.YtaeaeejfaffbpaaHFnExactSortMarksx4
import Derived.Test.YtaeaeejfaffbpaaHFnExactSortMarksx5
namespace Go.Proofs.Ytaeaeejfaffbpaa.HFnExactSortMarks
open Go.RowKit Go.Proofs.YtaeaeejfaffbpaaW.PrintWords Go.Proofs.YtaeaeejfaffbpaaW.PrintLast Go.Proofs.YtaeaeejfaffbpaaW.PrintMore
attribute [local go_sem] max2_int min2_int max_two min_two max_three min_three max_four min_four   -- for this text's walks alone
set_option linter.unusedVariables false
set_option linter.unusedSimpArgs false

set_option maxHeartbeats 8000000 in
set_option maxRecDepth 1000000 in
theorem symB (blk off cap g : Nat) (d0 : Array TI) (w0 : World) (R : Row1 encT w0 blk off d0) (hcmp : CmpLays1 Try.prog g #[] encT cfT blk off d0.size w0) (eg : ∀ args w, (callFunc g args).run Try.prog w = .ok (.enter g args) w) (hsz : d0.size < 1000000) (a m b : Nat) (d : Array TI) (w : World) (h1 : a < m) (h2 : m < b) (h3 : b ≤ d.size) (hs : d0.size = d.size) (S : SW encT w0 blk off d w) (HM0 : Mer a m b d) (ca : ¬ m - a = 1) (cb : b = m + 1) :
    Calls Try.prog 90 #[.slice (some ⟨blk, off, none⟩) d.size cap, .int .i64 a, .int .i64 m, .int .i64 b, .func (.func g) #[] #[]] w fun e' w' => e' = .returned (.tuple #[]) ∧ ∃ d', SW encT w0 blk off d' w' ∧ Sort.PermIn a b d d' ∧ SortedT a b d' := by
  have mixed : Try.prog.follows .mixedOrders = true := by kernel_rfl
  have HC : Aside0 _ := ⟨hcmp⟩
  have hcl0 := R.hO.cells
  simp only [Value.cells] at hcl0
  have hst := R.hO.store Try.prog
  have S0 : Aside0 (SW encT w0 blk off d w) := ⟨S⟩
  have HM : Aside0 (Mer a m b d) := ⟨HM0⟩
  clear S HM0 hcmp
  have wma : IntKind.i64.wrap ((m : Int) - (a : Int)) = (m : Int) - (a : Int) := by rw [IntKind.wrap_i64]; omega
  have wbm : IntKind.i64.wrap ((b : Int) - (m : Int)) = (b : Int) - (m : Int) := by rw [IntKind.wrap_i64]; omega
  have caz : (((m : Int) - (a : Int)) == 1) = false := by rw [beq_eq_false_iff_ne]; omega
  have CB := Aside0.mk cb
  have cb2 : m + 1 ≤ b ∧ b ≤ m + 1 := by omega
  have cbz : (b : Int) - (m : Int) = 1 := by omega
  clear cb
  go_enter Try.func90, Try.ntmps90
  go_wp2
  go_loopg [14, 15] (m - a) (fun kx s14 s15 wr => ∃ (i j : Nat), s14 = .int .i64 (i : Int) ∧ s15 = .int .i64 (j : Int) ∧ a ≤ i ∧ i ≤ j ∧ j ≤ m ∧ j - i ≤ kx ∧ Aside0 (SW encT w0 blk off d wr) ∧ Aside0 ((∀ x, a ≤ x → x < i → ¬ ordV d[m]!.x < ordV d[x]!.x) ∧ ∀ x, j ≤ x → x < m → ordV d[m]!.x < ordV d[x]!.x))
  case atStart => exact ⟨a, m, rfl, rfl, Nat.le_refl _, by omega, Nat.le_refl _, Nat.le_refl _, S0, ⟨fun x k1 k2 => by omega, fun x k1 k2 => by omega⟩⟩
  case round =>
    clear S0
    obtain ⟨i, j, rfl, rfl, hi, hij, hj, hkx, S1, HP⟩ := hrel
    by_cases hlt : i < j
    · have hltz : (i : Int) < (j : Int) := by omega
      obtain ⟨h, hh⟩ : ∃ h, h = (i + j) / 2 := ⟨_, rfl⟩
      have wij : IntKind.i64.wrap ((i : Int) + (j : Int)) = (i : Int) + (j : Int) := by rw [IntKind.wrap_i64]; omega
      have hz := Aside0.mk (show ((i : Int) + (j : Int)) / 2 = (h : Int) from by omega)
      have hh1 : i ≤ h ∧ h < j := by omega
      go_wp2_with fail
      rw [hz.out]
      clear hz wij hh
      have wh : IntKind.i64.wrap ((h : Int) + 1) = ((h + 1 : Nat) : Int) := by rw [IntKind.wrap_i64]; omega
      by_cases t : ordV d[m]!.x < ordV d[h]!.x
      · have T := Aside0.mk t
        clear t
        obtain ⟨a_N, hia_⟩ : ∃ q_, q_ = m := ⟨_, rfl⟩
        have ea_ : ((m : Int)).toNat = a_N := by omega
        have pa_ : (0 : Int) ≤ (m : Int) := by omega
        have ba_ : (m : Int) < (d.size : Int) := by omega
        obtain ⟨c_N, hic_⟩ : ∃ q_, q_ = h := ⟨_, rfl⟩
        have ec_ : ((h : Int)).toNat = c_N := by omega
        have pc_ : (0 : Int) ≤ (h : Int) := by omega
        have bc_ : (h : Int) < (d.size : Int) := by omega
        obtain ⟨x, hx⟩ : ∃ x, x = d[m]! := ⟨_, rfl⟩
        obtain ⟨y, hy⟩ : ∃ x, x = d[h]! := ⟨_, rfl⟩
        have la := S1.out.cl R (by omega) (m) (by omega)
        have lc := S1.out.cl R (by omega) (h) (by omega)
        rw [← hx, ← hia_] at la
        rw [← hy, ← hic_] at lc
        have hc := S1.out.cmp HC.out (by omega) x y
        have hv : cfT x y < 0 := by rw [hx, hy, cf_lt]; exact T.out
        have hd : decide (cfT x y < 0) = true := decide_eq_true hv
        clear hx hy hia_ hic_
        go_wp2_with fail
        go_quiet_grown (first | (go_at_fn g; refine Calls.grown_of (hc _ _)))
        have S2 : Aside0 (SW encT w0 blk off d (Sort.grow (wr.drewN nq) osq)) := ⟨S1.out.grown nq osq⟩
        clear la lc hc S1
        generalize Sort.grow (wr.drewN nq) osq = w2 at S2 ⊢
        clear nq osq ea_ ec_
        go_wp2
        go_roundg (h - i)
        case measure => omega
        case rel => exact ⟨i, h, rfl, rfl, hi, by omega, by omega, Nat.le_refl _, S2, ⟨fun x k1 k2 => (by have := HP.out.1 x k1 k2; omega), fun x k1 k2 => (by have := sorted_le HM.out.s1 (show a ≤ h by omega) k1 k2; have := T.out; omega)⟩⟩
      · have T := Aside0.mk t
        clear t
        obtain ⟨a_N, hia_⟩ : ∃ q_, q_ = m := ⟨_, rfl⟩
        have ea_ : ((m : Int)).toNat = a_N := by omega
        have pa_ : (0 : Int) ≤ (m : Int) := by omega
        have ba_ : (m : Int) < (d.size : Int) := by omega
        obtain ⟨c_N, hic_⟩ : ∃ q_, q_ = h := ⟨_, rfl⟩
        have ec_ : ((h : Int)).toNat = c_N := by omega
        have pc_ : (0 : Int) ≤ (h : Int) := by omega
        have bc_ : (h : Int) < (d.size : Int) := by omega
        obtain ⟨x, hx⟩ : ∃ x, x = d[m]! := ⟨_, rfl⟩
        obtain ⟨y, hy⟩ : ∃ x, x = d[h]! := ⟨_, rfl⟩
        have la := S1.out.cl R (by omega) (m) (by omega)
        have lc := S1.out.cl R (by omega) (h) (by omega)
        rw [← hx, ← hia_] at la
        rw [← hy, ← hic_] at lc
        have hc := S1.out.cmp HC.out (by omega) x y
        have hv : ¬ cfT x y < 0 := by rw [hx, hy, cf_lt]; exact T.out
        have hd : decide (cfT x y < 0) = false := decide_eq_false hv
        clear hx hy hia_ hic_
        go_wp2_with fail
        go_quiet_grown (first | (go_at_fn g; refine Calls.grown_of (hc _ _)))
        have S2 : Aside0 (SW encT w0 blk off d (Sort.grow (wr.drewN nq) osq)) := ⟨S1.out.grown nq osq⟩
        clear la lc hc S1
        generalize Sort.grow (wr.drewN nq) osq = w2 at S2 ⊢
        clear nq osq ea_ ec_
        go_wp2
        go_roundg (j - (h + 1))
        case measure => omega
        case rel => exact ⟨h + 1, j, rfl, rfl, by omega, by omega, hj, Nat.le_refl _, S2, ⟨fun x k1 k2 => (by have := sorted_le HM.out.s1 k1 (show x ≤ h by omega) (by omega); have := T.out; omega), HP.out.2⟩⟩
    · have hltz : ¬ (i : Int) < (j : Int) := by omega
      obtain rfl : i = j := by omega
      go_wp2
      go_loopg [17] (m - i) (fun kx s17 wr => ∃ (k : Nat) (dk : Array TI), s17 = .int .i64 (k : Int) ∧ i ≤ k ∧ k ≤ m ∧ k - i ≤ kx ∧ dk.size = d.size ∧ Aside0 (SW encT w0 blk off dk wr) ∧ Aside0 (Rotated k m (m + 1) d dk ∧ Sort.PermIn a b d dk))
      case atStart => exact ⟨m, d, rfl, hj, Nat.le_refl _, Nat.le_refl _, rfl, S1, ⟨Rotated.none d (.inl rfl), Sort.permIn_refl _ _ _⟩⟩
      case round =>
        clear S1
        obtain ⟨k, dk, rfl, hik, hkm, hkx2, hds, S1, HQ⟩ := hrel
        by_cases hk : i < k
        · have hkz : (i : Int) < (k : Int) := by omega
          obtain ⟨q, hq⟩ : ∃ q, k = q + 1 := ⟨k - 1, by omega⟩
          have hQ := Aside0.mk hq
          have hq2 : q < k ∧ i ≤ q := by omega
          have hq3 : (k : Int) - 1 = (q : Int) := by omega
          clear hq
          have wq : IntKind.i64.wrap ((k : Int) - 1) = (q : Int) := by rw [IntKind.wrap_i64]; omega
          clear hq3
          go_wp2_with fail
          obtain ⟨a_N, hia_⟩ : ∃ q_, q_ = k := ⟨_, rfl⟩
          have ea_ : ((k : Int)).toNat = a_N := by omega
          have pa_ : (0 : Int) ≤ (k : Int) := by omega
          have ba_ : (k : Int) < (d.size : Int) := by omega
          obtain ⟨c_N, hic_⟩ : ∃ q_, q_ = q := ⟨_, rfl⟩
          have ec_ : ((q : Int)).toNat = c_N := by omega
          have pc_ : (0 : Int) ≤ (q : Int) := by omega
          have bc_ : (q : Int) < (d.size : Int) := by omega
          obtain ⟨x, hx⟩ : ∃ x, x = dk[k]! := ⟨_, rfl⟩
          obtain ⟨y, hy⟩ : ∃ x, x = dk[q]! := ⟨_, rfl⟩
          have S2 : Aside0 (SW encT w0 blk off (Sort.swp dk (k) (q)) ((wr.setCell ⟨blk, off + a_N, none⟩ (encT y)).setCell ⟨blk, off + c_N, none⟩ (encT x)).drew) := ⟨by rw [hia_, hic_, hx, hy]; exact S1.out.swapped R (k) (q) (by omega) (by omega)⟩
          have ca_ := S1.out.c1 R (by omega) (k) (by omega)
          have cc_ := S1.out.c1 R (by omega) (q) (by omega)
          have fa_ := S1.out.f1 R (by omega) (k) (by omega)
          have fc_ := S1.out.f1 R (by omega) (q) (by omega)
          obtain ⟨u, cd_⟩ := S1.out.c2 R (by omega) (k) (q) (by omega) (by omega) (encT y)
          rw [← hic_, ← hia_] at cd_
          rw [← hx, ← hia_] at ca_
          rw [← hy, ← hic_] at cc_
          rw [← hia_] at fa_
          rw [← hic_] at fc_
          clear S1 hx hy hia_ hic_
          go_wp2_with fail
          go_big_region_o
          clear ca_ cc_ cd_ fa_ fc_
          generalize ((wr.setCell ⟨blk, off + a_N, none⟩ (encT y)).setCell ⟨blk, off + c_N, none⟩ (encT x)).drew = w2 at S2 ⊢
          clear ea_ ec_
          go_wp2
          go_roundg (q - i)
          case measure => omega
          case rel => exact ⟨q, Sort.swp dk k q, rfl, by omega, by omega, Nat.le_refl _, by rw [Sort.size_swp]; exact hds, S2, ⟨by have e := HQ.out.1; rw [hQ.out] at e ⊢; exact Rotated.down e (by omega) (by omega), Sort.permIn_trans _ _ _ _ _ HQ.out.2 (Sort.swp_permIn _ _ _ _ _ (by omega) (by omega) (by omega) (by omega) (by omega))⟩⟩
        · have hkz : ¬ (i : Int) < (k : Int) := by omega
          obtain rfl : i = k := by omega
          go_wp2
          (try simp only [Exit.inBlock, Exit.then]); refine bodyPost_ret (results_none rfl _ _ _) rfl ?_
          obtain rfl := CB.out
          exact ⟨rfl, dk, S1.out, HQ.out.2, base2 HM.out.s1 hi hj (fun x k1 k2 => by have := HP.out.1 x k1 k2; omega) HP.out.2 (fun x k1 k2 => HM.out.tg x m k1 k2 (Nat.le_refl _) (by omega)) HQ.out.1⟩

end Go.Proofs.Ytaeaeejfaffbpaa.HFnExactSortMarks
