/- Written by wip/pr.py of this session, for the law FnExactSortMarks: Lean functions with the answers of the program's, and the proofs of that; where the kit's print has no word, by hand. -/
import Derived.Test.YtaeaeejfaffbpaaHFnExactSortMarksx0
import Derived.Test.YtaeaeejfaffbpaaHFnExactSortMarksx4
namespace Go.Proofs.Ytaeaeejfaffbpaa.HFnExactSortMarks
open Go.RowKit Go.Proofs.YtaeaeejfaffbpaaW.PrintWords Go.Proofs.YtaeaeejfaffbpaaW.PrintLast Go.Proofs.YtaeaeejfaffbpaaW.PrintMore
attribute [local go_sem] max2_int min2_int max_two min_two max_three min_three max_four min_four   -- for this text's walks alone
set_option linter.unusedVariables false
set_option linter.unusedSimpArgs false

def encT (e : TI) : Value := .int .i64 e.x
theorem oneT : OneCell encT := fun _ => rfl
set_option maxHeartbeats 4000000 in
set_option maxRecDepth 1000000 in
theorem swapRangeT (blk off cap a b n g : Nat) (d0 d : Array TI) (w0 w : World) (R : Row1 encT w0 blk off d0) (hs : d0.size = d.size) (S : SW encT w0 blk off d w) (hab : a + n ≤ b) (hb : b + n ≤ d.size) (hsz : d.size < 1000000) :
    Calls Try.prog 92 #[.slice (some ⟨blk, off, none⟩) d.size cap, .int .i64 a, .int .i64 b, .int .i64 n, .func (.func g) #[] #[]] w fun e w' => e = .returned (.tuple #[]) ∧ ∃ d', SW encT w0 blk off d' w' ∧ Swapped a b n d d' ∧ Sort.PermIn a (b + n) d d' := by
  have mixed : Try.prog.follows .mixedOrders = true := by kernel_rfl
  have hcl0 := R.hO.cells
  simp only [Value.cells] at hcl0
  have hst := R.hO.store Try.prog
  have S0 : Aside0 (SW encT w0 blk off d w) := ⟨S⟩
  clear S
  go_enter Try.func92, Try.ntmps92
  go_wp2
  go_loopg [10] n (fun kx s10 wr => ∃ (i : Nat) (dk : Array TI), s10 = .int .i64 i ∧ i ≤ n ∧ n - i ≤ kx ∧ dk.size = d.size ∧ Aside0 (SW encT w0 blk off dk wr) ∧ Aside0 (Swapped a b i d dk ∧ Sort.PermIn a (b + n) d dk))
  case atStart => exact ⟨0, d, rfl, Nat.zero_le _, Nat.le_refl _, rfl, S0, ⟨Swapped.zero _ _ _, Sort.permIn_refl _ _ _⟩⟩
  case round =>
    clear S0
    obtain ⟨i, dk, rfl, hin, hkx, hds, S1, HP⟩ := hrel
    by_cases hlt : (i : Int) < n
    · have hij : i < n := by omega
      go_wp2_with fail
      obtain ⟨iN, hiN⟩ : ∃ q, q = a + i := ⟨_, rfl⟩
      obtain ⟨jN, hjN⟩ : ∃ q, q = b + i := ⟨_, rfl⟩
      have ea : ((a : Int) + (i : Int)).toNat = iN := by omega
      have pa : (0 : Int) ≤ (a : Int) + (i : Int) := by omega
      have ba : (a : Int) + (i : Int) < (d.size : Int) := by omega
      have ra : IntKind.i64.wrap ((a : Int) + (i : Int)) = (a : Int) + (i : Int) := by rw [IntKind.wrap_i64]; omega
      have ec : ((b : Int) + (i : Int)).toNat = jN := by omega
      have pc : (0 : Int) ≤ (b : Int) + (i : Int) := by omega
      have bc : (b : Int) + (i : Int) < (d.size : Int) := by omega
      have rc : IntKind.i64.wrap ((b : Int) + (i : Int)) = (b : Int) + (i : Int) := by rw [IntKind.wrap_i64]; omega
      obtain ⟨x, hx⟩ : ∃ x, x = dk[a + i]! := ⟨_, rfl⟩
      obtain ⟨y, hy⟩ : ∃ x, x = dk[b + i]! := ⟨_, rfl⟩
      have S2 : Aside0 (SW encT w0 blk off (Sort.swp dk (a + i) (b + i)) ((wr.setCell ⟨blk, off + iN, none⟩ (encT y)).setCell ⟨blk, off + jN, none⟩ (encT x)).drew) := ⟨by rw [hiN, hjN, hx, hy]; exact S1.out.swapped R (a + i) (b + i) (by omega) (by omega)⟩
      have ca := S1.out.c1 R (by omega) (a + i) (by omega)
      have cb := S1.out.c1 R (by omega) (b + i) (by omega)
      have fa := S1.out.f1 R (by omega) (a + i) (by omega)
      have fb := S1.out.f1 R (by omega) (b + i) (by omega)
      obtain ⟨u, cc⟩ := S1.out.c2 R (by omega) (a + i) (b + i) (by omega) (by omega) (encT y)
      rw [← hjN, ← hiN] at cc
      rw [← hx, ← hiN] at ca
      rw [← hy, ← hjN] at cb
      rw [← hiN] at fa
      rw [← hjN] at fb
      clear S1 hx hy hiN hjN
      go_wp2_with fail
      go_big_region_o
      clear ca cb cc fa fb
      generalize ((wr.setCell ⟨blk, off + iN, none⟩ (encT y)).setCell ⟨blk, off + jN, none⟩ (encT x)).drew = w2 at S2 ⊢
      clear ea ec
      go_wp2
      go_roundg (n - (i + 1))
      case measure => omega
      case rel => exact ⟨i + 1, Sort.swp dk (a + i) (b + i), by first | rfl | simp | go_num, by omega, Nat.le_refl _, by rw [Sort.size_swp]; exact hds, S2, ⟨Swapped.step HP.out.1 (by omega) (by omega), Sort.permIn_trans _ _ _ _ _ HP.out.2 (Sort.swp_permIn _ _ _ _ _ (by omega) (by omega) (by omega) (by omega) (by omega))⟩⟩
    · have hnot : i = n := by omega
      subst hnot
      go_wp2
      go_end0
      exact ⟨rfl, dk, S1.out, HP.out⟩

set_option maxHeartbeats 4000000 in
set_option maxRecDepth 1000000 in
theorem rotateT (blk off cap s m e g : Nat) (d0 d : Array TI) (w0 w : World) (R : Row1 encT w0 blk off d0) (hs : d0.size = d.size) (S : SW encT w0 blk off d w) (hsm : s < m) (hme : m < e) (he : e ≤ d.size) (hsz : d.size < 1000000) :
    Calls Try.prog 91 #[.slice (some ⟨blk, off, none⟩) d.size cap, .int .i64 s, .int .i64 m, .int .i64 e, .func (.func g) #[] #[]] w fun e' w' => e' = .returned (.tuple #[]) ∧ ∃ d', SW encT w0 blk off d' w' ∧ Rotated s m e d d' ∧ Sort.PermIn s e d d' := by
  have S0 : Aside0 (SW encT w0 blk off d w) := ⟨S⟩
  have SWP := Aside0.mk (fun (a b n : Nat) (d : Array TI) (w : World) (hs : d0.size = d.size) => swapRangeT blk off cap a b n g d0 d w0 w R hs)
  clear S
  obtain ⟨i0, hi0⟩ : ∃ i, s + i = m := ⟨m - s, by omega⟩
  obtain ⟨j0, hj0⟩ : ∃ j, m + j = e := ⟨e - m, by omega⟩
  have wi : IntKind.i64.wrap ((m : Int) - (s : Int)) = (i0 : Int) := by rw [IntKind.wrap_i64]; omega
  have wj : IntKind.i64.wrap ((e : Int) - (m : Int)) = (j0 : Int) := by rw [IntKind.wrap_i64]; omega
  go_enter Try.func91, Try.ntmps91
  go_wp2
  go_loopg [10, 11] (i0 + j0) (fun kx s10 s11 wr => ∃ (s1 i j e1 : Nat) (dk : Array TI), s10 = .int .i64 (i : Int) ∧ s11 = .int .i64 (j : Int) ∧ s ≤ s1 ∧ s1 + i = m ∧ m + j = e1 ∧ 0 < i ∧ 0 < j ∧ e1 ≤ e ∧ i + j ≤ kx ∧ dk.size = d.size ∧ Aside0 (SW encT w0 blk off dk wr) ∧ Aside0 ((∀ d', Rotated s1 m e1 dk d' → Rotated s m e d d') ∧ Sort.PermIn s e d dk))
  case atStart => exact ⟨s, i0, j0, e, d, rfl, rfl, Nat.le_refl _, hi0, hj0, by omega, by omega, Nat.le_refl _, Nat.le_refl _, rfl, S0, ⟨fun _ h => h, Sort.permIn_refl _ _ _⟩⟩
  case round =>
    clear S0 wi wj
    obtain ⟨s1, i, j, e1, dk, rfl, rfl, h1, h2, h3, hi, hj, h4, hkx, hds, S1, HP⟩ := hrel
    have hw : IntKind.i64.wrap ((m : Int) - (i : Int)) = (s1 : Int) := by rw [IntKind.wrap_i64]; omega
    by_cases c : i = j
    · have HC := Aside0.mk (SWP.out s1 m i dk wr (by omega) S1.out (by omega) (by omega) (by omega))
      rw [hds] at HC
      subst c
      have cb : decide ((i : Int) = (i : Int)) = true := decide_eq_true rfl
      clear S1
      go_wp2_with (go_at_call 92; (with_reducible refine HC.out.mono ?_); rintro e' w2 ⟨rfl, d2, S2, Q2, P2⟩)
      go_end0
      refine ⟨rfl, d2, S2, HP.out.1 d2 (Rotated.eq (by rw [show m - s1 = i from by omega]; exact Q2) (by omega) (by omega)), ?_⟩
      exact Sort.permIn_trans _ _ _ _ _ HP.out.2 (Sort.permIn_mono _ _ _ _ _ _ h1 (by omega) (by omega) P2)
    · have cz : ¬ (i : Int) = (j : Int) := by omega
      by_cases c2 : j < i
      · have c2z : (j : Int) < (i : Int) := by omega
        have HC := Aside0.mk (SWP.out s1 m j dk wr (by omega) S1.out (by omega) (by omega) (by omega))
        rw [hds] at HC
        obtain ⟨i2, hi2⟩ : ∃ i2, i2 + j = i := ⟨i - j, by omega⟩
        have wi : IntKind.i64.wrap ((i : Int) - (j : Int)) = (i2 : Int) := by rw [IntKind.wrap_i64]; omega
        clear S1
        go_wp2_with (go_at_call 92; (with_reducible refine HC.out.mono ?_); rintro e' w2 ⟨rfl, d2, S2, Q2, P2⟩; have S3 := Aside0.mk S2; have Q3 := Aside0.mk Q2; have P3 := Aside0.mk P2; clear S2 Q2 P2)
        go_roundg (i2 + j)
        case measure => omega
        case rel => exact ⟨s1 + j, i2, j, e1, d2, rfl, rfl, by omega, by omega, h3, by omega, hj, h4, Nat.le_refl _, Q3.out.1.trans hds, S3, ⟨fun d' hd => HP.out.1 d' (Rotated.gt (by rw [show e1 - m = j from by omega]; exact Q3.out) (by omega) (by omega) (by rw [show e1 - m = j from by omega]; exact hd)), Sort.permIn_trans _ _ _ _ _ HP.out.2 (Sort.permIn_mono _ _ _ _ _ _ h1 (by omega) (by omega) P3.out)⟩⟩
      · have c2z : ¬ (j : Int) < (i : Int) := by omega
        obtain ⟨e2, he2⟩ : ∃ e2, e2 + i = e1 := ⟨e1 - i, by omega⟩
        have HC := Aside0.mk (SWP.out s1 e2 i dk wr (by omega) S1.out (by omega) (by omega) (by omega))
        rw [hds] at HC
        have w1 : IntKind.i64.wrap ((m : Int) + (j : Int)) = (e1 : Int) := by rw [IntKind.wrap_i64]; omega
        have w2 : IntKind.i64.wrap ((e1 : Int) - (i : Int)) = (e2 : Int) := by rw [IntKind.wrap_i64]; omega
        obtain ⟨j2, hj2⟩ : ∃ j2, j2 + i = j := ⟨j - i, by omega⟩
        have wj : IntKind.i64.wrap ((j : Int) - (i : Int)) = (j2 : Int) := by rw [IntKind.wrap_i64]; omega
        clear S1
        go_wp2_with (go_at_call 92; (with_reducible refine HC.out.mono ?_); rintro e' w2 ⟨rfl, d2, S2, Q2, P2⟩; have S3 := Aside0.mk S2; have Q3 := Aside0.mk Q2; have P3 := Aside0.mk P2; clear S2 Q2 P2)
        go_roundg (i + j2)
        case measure => omega
        case rel => exact ⟨s1, i, j2, e2, d2, rfl, rfl, h1, h2, by omega, hi, by omega, by omega, Nat.le_refl _, Q3.out.1.trans hds, S3, ⟨fun d' hd => HP.out.1 d' (Rotated.lt (by rw [show m - s1 = i from by omega, show e1 - i = e2 from by omega]; exact Q3.out) (by omega) (by omega) (by rw [show m - s1 = i from by omega, show e1 - i = e2 from by omega]; exact hd)), Sort.permIn_trans _ _ _ _ _ HP.out.2 (Sort.permIn_mono _ _ _ _ _ _ h1 (by omega) (by omega) P3.out)⟩⟩

/-! blocks: the plain side of slices.stableCmpFunc -/
theorem dvd_gap {s a c : Nat} (h : s ∣ a) (k : s ∣ c) (l : a < c) : a + s ≤ c := by
  have e : s ∣ c - a := Nat.dvd_sub k h
  have := Nat.le_of_dvd (by omega) e
  omega
/-- What stands ahead of a place came ahead of what stands behind it. -/
def Bnd (c n : Nat) (d : Array TI) : Prop := ∀ x y, x < c → c ≤ y → y < n → d[x]!.t ≤ d[y]!.t
theorem Bnd.perm {a b c n : Nat} {d d' : Array TI} (h : Bnd c n d) (p : Sort.PermIn a b d d') (hc : c ≤ a ∨ b ≤ c) (hb : b ≤ n) (hn : n ≤ d.size) : Bnd c n d' := by
  intro x y hx hy hyn
  have hL : ∀ z, z < c → ∀ w, c ≤ w → w < n → d'[z]!.t ≤ d[w]!.t := by
    intro z hz w hw hwn
    by_cases k : a ≤ z ∧ z < b
    · refine Sort.permIn_all d d' a b (fun e => e.t ≤ d[w]!.t) (by omega) p (fun q q1 q2 => ?_) z k.1 k.2
      exact h q w (by omega) hw hwn
    · rw [p.2.1 z (by omega)]
      exact h z w hz hw hwn
  by_cases k : a ≤ y ∧ y < b
  · exact Sort.permIn_all d d' a b (fun e => d'[x]!.t ≤ e.t) (by omega) p (fun q q1 q2 => hL x hx q (by omega) (by omega)) y k.1 k.2
  · rw [p.2.1 y (by omega)]
    exact hL x hx y hy hyn
theorem SortedT.perm {a b u v : Nat} {d d' : Array TI} (h : SortedT u v d) (p : Sort.PermIn a b d d') (hc : v ≤ a ∨ b ≤ u) : SortedT u v d' := by
  intro i j hi hij hj
  rw [p.2.1 i (by omega), p.2.1 j (by omega)]
  exact h i j hi hij hj
/-- The row sorted in blocks. -/
structure SB (s n : Nat) (d d' : Array TI) : Prop where
  so : ∀ c, s ∣ c → SortedT c (min (c + s) n) d'
  tg : ∀ c, s ∣ c → Bnd c n d'
  pm : Sort.PermIn 0 n d d'
/-- The first pass: blocks of twenty. -/
structure Ph1 (a n : Nat) (d dk : Array TI) : Prop where
  dv : 20 ∣ a
  lo : ∀ c, 20 ∣ c → c < a → SortedT c (c + 20) dk
  hi : ∀ k, a ≤ k → dk[k]! = d[k]!
  tg : ∀ c, 20 ∣ c → Bnd c n dk
  pm : Sort.PermIn 0 n d dk
theorem Ph1.start {n : Nat} {d : Array TI} (h : ∀ c, Bnd c n d) : Ph1 0 n d d := ⟨⟨0, rfl⟩, fun c _ k => by omega, fun _ _ => rfl, fun c _ => h c, Sort.permIn_refl _ _ _⟩
theorem Ph1.asc {a n : Nat} {d dk : Array TI} (h : Ph1 a n d dk) (H : ∀ c, Bnd c n d) (b : Nat) (hb : b ≤ n) : ∀ k l, a ≤ k → k < l → l < b → dk[k]!.t ≤ dk[l]!.t := by
  intro k l hk hkl hl
  rw [h.hi k hk, h.hi l (by omega)]
  exact H l k l hkl (Nat.le_refl _) (by omega)
theorem Ph1.step {a n : Nat} {d dk d' : Array TI} (h : Ph1 a n d dk) (p : Sort.PermIn a (a + 20) dk d') (s : SortedT a (a + 20) d') (hn : a + 20 ≤ n) (hz : n ≤ dk.size) : Ph1 (a + 20) n d d' := by
  refine ⟨Nat.dvd_add h.dv (Nat.dvd_refl _), fun c hc k => ?_, fun k hk => ?_, fun c hc => ?_, ?_⟩
  · by_cases e : c = a
    · subst e; exact s
    · have : c < a := by
        rcases Nat.lt_or_ge a c with q | q
        · have := dvd_gap h.dv hc q; omega
        · omega
      have := dvd_gap hc h.dv this
      exact (h.lo c hc (by omega)).perm p (by omega)
  · rw [p.2.1 k (by omega)]
    exact h.hi k (by omega)
  · refine (h.tg c hc).perm p ?_ hn hz
    rcases Nat.lt_or_ge a c with q | q
    · exact .inr (dvd_gap h.dv hc q)
    · exact .inl q
  · exact Sort.permIn_trans _ _ _ _ _ h.pm (Sort.permIn_mono _ _ _ _ _ _ (Nat.zero_le _) hn hz p)
theorem Ph1.last {a n : Nat} {d dk d' : Array TI} (h : Ph1 a n d dk) (p : Sort.PermIn a n dk d') (s : SortedT a n d') (han : a ≤ n) (hn : n < a + 20) (hz : n ≤ dk.size) : SB 20 n d d' := by
  refine ⟨fun c hc => ?_, fun c hc => ?_, ?_⟩
  · rcases Nat.lt_trichotomy a c with q | q | q
    · have := dvd_gap h.dv hc q
      intro i j hi hij hj
      omega
    · subst q
      intro i j hi hij hj
      exact s i j hi hij (by omega)
    · have := dvd_gap hc h.dv q
      rw [show min (c + 20) n = c + 20 from by omega]
      exact (h.lo c hc q).perm p (by omega)
  · by_cases q : c ≤ a
    · exact (h.tg c hc).perm p (.inl q) (Nat.le_refl _) hz
    · have := dvd_gap h.dv hc (by omega)
      intro x y hx hy hyn
      omega
  · exact Sort.permIn_trans _ _ _ _ _ h.pm (Sort.permIn_mono _ _ _ _ _ _ (Nat.zero_le _) (Nat.le_refl _) hz p)
/-- A pass that merges blocks two by two. -/
structure Ph2 (s a n : Nat) (d dk : Array TI) : Prop where
  dv : 2 * s ∣ a
  lo : ∀ c, 2 * s ∣ c → c < a → SortedT c (c + 2 * s) dk
  hi : ∀ c, s ∣ c → a ≤ c → SortedT c (min (c + s) n) dk
  tg : ∀ c, 2 * s ∣ c → Bnd c n dk
  th : ∀ c, s ∣ c → a ≤ c → Bnd c n dk
  pm : Sort.PermIn 0 n d dk
theorem two_dvd {s c : Nat} (h : 2 * s ∣ c) : s ∣ c := Nat.dvd_trans ⟨2, by omega⟩ h
theorem Ph2.start {s n : Nat} {d dk : Array TI} (h : SB s n d dk) : Ph2 s 0 n d dk := ⟨⟨0, rfl⟩, fun c _ k => by omega, fun c hc _ => h.so c hc, fun c hc => h.tg c (two_dvd hc), fun c hc _ => h.tg c hc, h.pm⟩
theorem Ph2.mer {s a n e : Nat} {d dk : Array TI} (h : Ph2 s a n d dk) (h1 : a + s < e) (h2 : e ≤ n) (h3 : e ≤ a + 2 * s) : Mer a (a + s) e dk := by
  have hs := h.hi a (two_dvd h.dv) (Nat.le_refl _)
  have ht := h.hi (a + s) (Nat.dvd_add (two_dvd h.dv) (Nat.dvd_refl _)) (by omega)
  refine ⟨fun i j hi hij hj => hs i j hi hij (by omega), fun i j hi hij hj => ht i j hi hij (by omega), fun x y hx hx2 hy hy2 => ?_⟩
  exact h.th (a + s) (Nat.dvd_add (two_dvd h.dv) (Nat.dvd_refl _)) (by omega) x y hx2 hy (by omega)
theorem Ph2.step {s a n : Nat} {d dk d' : Array TI} (h : Ph2 s a n d dk) (p : Sort.PermIn a (a + 2 * s) dk d') (so : SortedT a (a + 2 * s) d') (hn : a + 2 * s ≤ n) (hz : n ≤ dk.size) : Ph2 s (a + 2 * s) n d d' := by
  refine ⟨Nat.dvd_add h.dv (Nat.dvd_refl _), fun c hc k => ?_, fun c hc k => ?_, fun c hc => ?_, fun c hc k => ?_, ?_⟩
  · by_cases e : c = a
    · subst e; exact so
    · have : c < a := by
        rcases Nat.lt_or_ge a c with q | q
        · have := dvd_gap h.dv hc q; omega
        · omega
      have := dvd_gap hc h.dv this
      exact (h.lo c hc (by omega)).perm p (by omega)
  · exact (h.hi c hc (by omega)).perm p (.inr k)
  · refine (h.tg c hc).perm p ?_ hn hz
    rcases Nat.lt_or_ge a c with q | q
    · exact .inr (dvd_gap h.dv hc q)
    · exact .inl q
  · exact (h.th c hc (by omega)).perm p (.inr k) hn hz
  · exact Sort.permIn_trans _ _ _ _ _ h.pm (Sort.permIn_mono _ _ _ _ _ _ (Nat.zero_le _) hn hz p)
theorem Ph2.last {s a n : Nat} {d dk d' : Array TI} (h : Ph2 s a n d dk) (p : Sort.PermIn a n dk d') (so : SortedT a n d') (han : a ≤ n) (hn : n < a + 2 * s) (hz : n ≤ dk.size) : SB (2 * s) n d d' := by
  refine ⟨fun c hc => ?_, fun c hc => ?_, ?_⟩
  · rcases Nat.lt_trichotomy a c with q | q | q
    · have := dvd_gap h.dv hc q
      intro i j hi hij hj
      omega
    · subst q
      intro i j hi hij hj
      exact so i j hi hij (by omega)
    · have := dvd_gap hc h.dv q
      rw [show min (c + 2 * s) n = c + 2 * s from by omega]
      exact (h.lo c hc q).perm p (by omega)
  · by_cases q : c ≤ a
    · exact (h.tg c hc).perm p (.inl q) (Nat.le_refl _) hz
    · have := dvd_gap h.dv hc (by omega)
      intro x y hx hy hyn
      omega
  · exact Sort.permIn_trans _ _ _ _ _ h.pm (Sort.permIn_mono _ _ _ _ _ _ (Nat.zero_le _) (Nat.le_refl _) hz p)
theorem Ph2.stop {s a n : Nat} {d dk : Array TI} (h : Ph2 s a n d dk) (han : a ≤ n) (hn : n ≤ a + s) (hs : 0 < s) (hz : n ≤ dk.size) : SB (2 * s) n d dk := by
  refine h.last (Sort.permIn_refl _ _ _) (fun i j hi hij hj => ?_) han (by omega) hz
  exact h.hi a (two_dvd h.dv) (Nat.le_refl _) i j hi hij (by omega)
theorem SB.done {s n : Nat} {d dk : Array TI} (h : SB s n d dk) (hn : n ≤ s) : SortedT 0 n dk := fun i j hi hij hj => h.so 0 ⟨0, rfl⟩ i j hi hij (by omega)

theorem cf_lt (a b : TI) : cfT a b < 0 ↔ ordV a.x < ordV b.x := by
  unfold cfT
  split
  · simp [*]
  · split
    · constructor <;> intro h <;> omega
    · constructor <;> intro h <;> omega
theorem Mer.kept {a m b c : Nat} {d d' : Array TI} (hc : m ≤ c) (h : Mer m c b d) (p : Sort.PermIn a m d d') : Mer m c b d' :=
  ⟨fun i j hi hij hj => by rw [p.2.1 i (by omega), p.2.1 j (by omega)]; exact h.s1 i j hi hij hj, fun i j hi hij hj => by rw [p.2.1 i (by omega), p.2.1 j (by omega)]; exact h.s2 i j hi hij hj, fun x y hx hx2 hy hy2 => by rw [p.2.1 x (by omega), p.2.1 y (by omega)]; exact h.tg x y hx hx2 hy hy2⟩
theorem Mer.triv {a s b : Nat} {d : Array TI} (h : Mer a s b d) (c : s = a ∨ s = b) : SortedT a b d := by
  rcases c with rfl | rfl
  · exact h.s2
  · exact h.s1
theorem symEnd {a st en b mid : Nat} {d d1 d2 d3 : Array TI} (h1 : a ≤ st) (h2 : en ≤ b) (h3 : b ≤ d.size) (h4 : a ≤ mid) (h5 : mid ≤ b) (hx : ∀ x y, a ≤ x → x < mid → mid ≤ y → y < b → tle d1[x]! d1[y]!) (p0 : Sort.PermIn st en d d1) (p1 : Sort.PermIn a mid d1 d2) (s1 : SortedT a mid d2) (p2 : Sort.PermIn mid b d2 d3) (s2 : SortedT mid b d3) : Sort.PermIn a b d d3 ∧ SortedT a b d3 := by
  have z : d1.size = d.size := p0.1
  have e := mer_end h4 h5 (by omega) p1 s1 p2 s2 hx
  exact ⟨Sort.permIn_trans _ _ _ _ _ (Sort.permIn_mono _ _ _ _ _ _ h1 h2 h3 p0) e.1, e.2⟩
set_option maxHeartbeats 8000000 in
set_option maxRecDepth 1000000 in
theorem symA (blk off cap g : Nat) (d0 : Array TI) (w0 : World) (R : Row1 encT w0 blk off d0) (hcmp : CmpLays1 Try.prog g #[] encT cfT blk off d0.size w0) (eg : ∀ args w, (callFunc g args).run Try.prog w = .ok (.enter g args) w) (hsz : d0.size < 1000000) (a m b : Nat) (d : Array TI) (w : World) (h1 : a < m) (h2 : m < b) (h3 : b ≤ d.size) (hs : d0.size = d.size) (S : SW encT w0 blk off d w) (HM0 : Mer a m b d) (ca : m - a = 1) :
    Calls Try.prog 90 #[.slice (some ⟨blk, off, none⟩) d.size cap, .int .i64 a, .int .i64 m, .int .i64 b, .func (.func g) #[] #[]] w fun e' w' => e' = .returned (.tuple #[]) ∧ ∃ d', SW encT w0 blk off d' w' ∧ Sort.PermIn a b d d' ∧ SortedT a b d' := by
  have mixed : Try.prog.follows .mixedOrders = true := by kernel_rfl
  have HC : Aside0 _ := ⟨hcmp⟩
  have hcl0 := R.hO.cells
  simp only [Value.cells] at hcl0
  have hst := R.hO.store Try.prog
  have S0 : Aside0 (SW encT w0 blk off d w) := ⟨S⟩
  have HM : Aside0 (Mer a m b d) := ⟨HM0⟩
  clear S HM0 hcmp
  have wma : IntKind.i64.wrap ((m : Int) - (a : Int)) = (m : Int) - (a : Int) := by rw [IntKind.wrap_i64]; omega
  have caz : (m : Int) - (a : Int) = 1 := by omega
  go_enter Try.func90, Try.ntmps90
  go_wp2
  go_loopg [10, 11] (b - m) (fun kx s10 s11 wr => ∃ (i j : Nat), s10 = .int .i64 (i : Int) ∧ s11 = .int .i64 (j : Int) ∧ m ≤ i ∧ i ≤ j ∧ j ≤ b ∧ j - i ≤ kx ∧ Aside0 (SW encT w0 blk off d wr) ∧ Aside0 ((∀ x, m ≤ x → x < i → ordV d[x]!.x < ordV d[a]!.x) ∧ ∀ x, j ≤ x → x < b → ¬ ordV d[x]!.x < ordV d[a]!.x))
  case atStart => exact ⟨m, b, rfl, rfl, Nat.le_refl _, by omega, Nat.le_refl _, Nat.le_refl _, S0, ⟨fun x k1 k2 => by omega, fun x k1 k2 => by omega⟩⟩
  case round =>
    clear S0
    obtain ⟨i, j, rfl, rfl, hi, hij, hj, hkx, S1, HP⟩ := hrel
    by_cases hlt : i < j
    · have hltz : (i : Int) < (j : Int) := by omega
      obtain ⟨h, hh⟩ : ∃ h, h = (i + j) / 2 := ⟨_, rfl⟩
      have wij : IntKind.i64.wrap ((i : Int) + (j : Int)) = (i : Int) + (j : Int) := by rw [IntKind.wrap_i64]; omega
      have hz := Aside0.mk (show ((i : Int) + (j : Int)) / 2 = (h : Int) from by omega)
      have hh1 : i ≤ h ∧ h < j := by omega
      go_wp2_with fail
      rw [hz.out]
      clear hz wij hh
      have wh : IntKind.i64.wrap ((h : Int) + 1) = ((h + 1 : Nat) : Int) := by rw [IntKind.wrap_i64]; omega
      by_cases t : ordV d[h]!.x < ordV d[a]!.x
      · have T := Aside0.mk t
        clear t
        obtain ⟨a_N, hia_⟩ : ∃ q_, q_ = h := ⟨_, rfl⟩
        have ea_ : ((h : Int)).toNat = a_N := by omega
        have pa_ : (0 : Int) ≤ (h : Int) := by omega
        have ba_ : (h : Int) < (d.size : Int) := by omega
        obtain ⟨c_N, hic_⟩ : ∃ q_, q_ = a := ⟨_, rfl⟩
        have ec_ : ((a : Int)).toNat = c_N := by omega
        have pc_ : (0 : Int) ≤ (a : Int) := by omega
        have bc_ : (a : Int) < (d.size : Int) := by omega
        obtain ⟨x, hx⟩ : ∃ x, x = d[h]! := ⟨_, rfl⟩
        obtain ⟨y, hy⟩ : ∃ x, x = d[a]! := ⟨_, rfl⟩
        have la := S1.out.cl R (by omega) (h) (by omega)
        have lc := S1.out.cl R (by omega) (a) (by omega)
        rw [← hx, ← hia_] at la
        rw [← hy, ← hic_] at lc
        have hc := S1.out.cmp HC.out (by omega) x y
        have hv : cfT x y < 0 := by rw [hx, hy, cf_lt]; exact T.out
        have hd : decide (cfT x y < 0) = true := decide_eq_true hv
        clear hx hy hia_ hic_
        go_wp2_with fail
        go_quiet_grown (first | (go_at_fn g; refine Calls.grown_of (hc _ _)))
        have S2 : Aside0 (SW encT w0 blk off d (Sort.grow (wr.drewN nq) osq)) := ⟨S1.out.grown nq osq⟩
        clear la lc hc S1
        generalize Sort.grow (wr.drewN nq) osq = w2 at S2 ⊢
        clear nq osq ea_ ec_
        go_wp2
        go_roundg (j - (h + 1))
        case measure => omega
        case rel => exact ⟨h + 1, j, rfl, rfl, by omega, by omega, hj, Nat.le_refl _, S2, ⟨fun x k1 k2 => (by have := sorted_le HM.out.s2 k1 (show x ≤ h by omega) (by omega); have := T.out; omega), HP.out.2⟩⟩
      · have T := Aside0.mk t
        clear t
        obtain ⟨a_N, hia_⟩ : ∃ q_, q_ = h := ⟨_, rfl⟩
        have ea_ : ((h : Int)).toNat = a_N := by omega
        have pa_ : (0 : Int) ≤ (h : Int) := by omega
        have ba_ : (h : Int) < (d.size : Int) := by omega
        obtain ⟨c_N, hic_⟩ : ∃ q_, q_ = a := ⟨_, rfl⟩
        have ec_ : ((a : Int)).toNat = c_N := by omega
        have pc_ : (0 : Int) ≤ (a : Int) := by omega
        have bc_ : (a : Int) < (d.size : Int) := by omega
        obtain ⟨x, hx⟩ : ∃ x, x = d[h]! := ⟨_, rfl⟩
        obtain ⟨y, hy⟩ : ∃ x, x = d[a]! := ⟨_, rfl⟩
        have la := S1.out.cl R (by omega) (h) (by omega)
        have lc := S1.out.cl R (by omega) (a) (by omega)
        rw [← hx, ← hia_] at la
        rw [← hy, ← hic_] at lc
        have hc := S1.out.cmp HC.out (by omega) x y
        have hv : ¬ cfT x y < 0 := by rw [hx, hy, cf_lt]; exact T.out
        have hd : decide (cfT x y < 0) = false := decide_eq_false hv
        clear hx hy hia_ hic_
        go_wp2_with fail
        go_quiet_grown (first | (go_at_fn g; refine Calls.grown_of (hc _ _)))
        have S2 : Aside0 (SW encT w0 blk off d (Sort.grow (wr.drewN nq) osq)) := ⟨S1.out.grown nq osq⟩
        clear la lc hc S1
        generalize Sort.grow (wr.drewN nq) osq = w2 at S2 ⊢
        clear nq osq ea_ ec_
        go_wp2
        go_roundg (h - i)
        case measure => omega
        case rel => exact ⟨i, h, rfl, rfl, hi, by omega, by omega, Nat.le_refl _, S2, ⟨HP.out.1, fun x k1 k2 => (by have := sorted_le HM.out.s2 (show m ≤ h by omega) k1 k2; have := T.out; omega)⟩⟩
    · have hltz : ¬ (i : Int) < (j : Int) := by omega
      obtain rfl : i = j := by omega
      have wi : IntKind.i64.wrap ((i : Int) - 1) = (i : Int) - 1 := by rw [IntKind.wrap_i64]; omega
      go_wp2
      go_loopg [13] (i - m) (fun kx s13 wr => ∃ (k : Nat) (dk : Array TI), s13 = .int .i64 (k : Int) ∧ a ≤ k ∧ k + 1 ≤ i ∧ i - (k + 1) ≤ kx ∧ dk.size = d.size ∧ Aside0 (SW encT w0 blk off dk wr) ∧ Aside0 (Rotated a (a + 1) (k + 1) d dk ∧ Sort.PermIn a b d dk))
      case atStart => exact ⟨a, d, rfl, Nat.le_refl _, by omega, by omega, rfl, S1, ⟨Rotated.none d (.inr rfl), Sort.permIn_refl _ _ _⟩⟩
      case round =>
        clear S1
        obtain ⟨k, dk, rfl, hak, hki, hkx2, hds, S1, HQ⟩ := hrel
        by_cases hk : k + 1 < i
        · have hkz : (k : Int) < (i : Int) - 1 := by omega
          go_wp2_with fail
          obtain ⟨a_N, hia_⟩ : ∃ q_, q_ = k := ⟨_, rfl⟩
          have ea_ : ((k : Int)).toNat = a_N := by omega
          have pa_ : (0 : Int) ≤ (k : Int) := by omega
          have ba_ : (k : Int) < (d.size : Int) := by omega
          obtain ⟨c_N, hic_⟩ : ∃ q_, q_ = k + 1 := ⟨_, rfl⟩
          have ec_ : ((k : Int) + 1).toNat = c_N := by omega
          have pc_ : (0 : Int) ≤ (k : Int) + 1 := by omega
          have bc_ : (k : Int) + 1 < (d.size : Int) := by omega
          have rc_ : IntKind.i64.wrap ((k : Int) + 1) = (k : Int) + 1 := by rw [IntKind.wrap_i64]; omega
          obtain ⟨x, hx⟩ : ∃ x, x = dk[k]! := ⟨_, rfl⟩
          obtain ⟨y, hy⟩ : ∃ x, x = dk[k + 1]! := ⟨_, rfl⟩
          have S2 : Aside0 (SW encT w0 blk off (Sort.swp dk (k) (k + 1)) ((wr.setCell ⟨blk, off + a_N, none⟩ (encT y)).setCell ⟨blk, off + c_N, none⟩ (encT x)).drew) := ⟨by rw [hia_, hic_, hx, hy]; exact S1.out.swapped R (k) (k + 1) (by omega) (by omega)⟩
          have ca_ := S1.out.c1 R (by omega) (k) (by omega)
          have cc_ := S1.out.c1 R (by omega) (k + 1) (by omega)
          have fa_ := S1.out.f1 R (by omega) (k) (by omega)
          have fc_ := S1.out.f1 R (by omega) (k + 1) (by omega)
          obtain ⟨u, cd_⟩ := S1.out.c2 R (by omega) (k) (k + 1) (by omega) (by omega) (encT y)
          rw [← hic_, ← hia_] at cd_
          rw [← hx, ← hia_] at ca_
          rw [← hy, ← hic_] at cc_
          rw [← hia_] at fa_
          rw [← hic_] at fc_
          clear S1 hx hy hia_ hic_
          go_wp2_with fail
          go_big_region_o
          clear ca_ cc_ cd_ fa_ fc_
          generalize ((wr.setCell ⟨blk, off + a_N, none⟩ (encT y)).setCell ⟨blk, off + c_N, none⟩ (encT x)).drew = w2 at S2 ⊢
          clear ea_ ec_
          go_wp2
          go_roundg (i - (k + 1 + 1))
          case measure => omega
          case rel => exact ⟨k + 1, Sort.swp dk k (k + 1), rfl, by omega, by omega, Nat.le_refl _, by rw [Sort.size_swp]; exact hds, S2, ⟨Rotated.up HQ.out.1 hak (by omega), Sort.permIn_trans _ _ _ _ _ HQ.out.2 (Sort.swp_permIn _ _ _ _ _ (by omega) (by omega) (by omega) (by omega) (by omega))⟩⟩
        · have hkz : ¬ (k : Int) < (i : Int) - 1 := by omega
          obtain rfl : i = k + 1 := by omega
          go_wp2
          (try simp only [Exit.inBlock, Exit.then]); refine bodyPost_ret (results_none rfl _ _ _) rfl ?_
          obtain rfl : m = a + 1 := by omega
          exact ⟨rfl, dk, S1.out, HQ.out.2, base1 HM.out.s2 rfl hi hj HP.out.1 (fun x k1 k2 => by have := HP.out.2 x k1 k2; omega) (fun x k1 k2 => HM.out.tg a x (Nat.le_refl _) (by omega) k1 k2) HQ.out.1⟩

end Go.Proofs.Ytaeaeejfaffbpaa.HFnExactSortMarks
