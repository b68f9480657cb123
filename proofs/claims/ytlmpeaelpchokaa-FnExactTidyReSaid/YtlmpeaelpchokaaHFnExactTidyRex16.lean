/- Written by wip/pr.py of this session, for the law FnExactTidyRe: Lean functions with the answers of the program's, and the proofs of that; where the kit's print has no word, by hand. -/
import Derived.Test.YtlmpeaelpchokaaHFnExactTidyRex0
namespace Go.Proofs.Ytlmpeaelpchokaa.HFnExactTidyRe
open Go.RowKit Go.Proofs.YtlmpeaelpchokaaW.PrintWords Go.Proofs.YtlmpeaelpchokaaW.PrintLast Go.Proofs.YtlmpeaelpchokaaW.PrintMore
attribute [local go_sem] max2_int min2_int max_two min_two max_three min_three max_four min_four   -- for this text's walks alone
set_option linter.unusedVariables false
set_option linter.unusedSimpArgs false

/-! ### impl_none: function 89 -/
def impl_none.f  : Option ((List (S49))) := some (([(⟨1, ([] : List Int)⟩ : S49)] : List (S49)))
set_option maxHeartbeats 8000000 in
set_option maxRecDepth 100000 in
theorem impl_none.calls  (r : List (S49)) (w : World) (h : impl_none.f  = some r) :
    Calls Try.prog 89 #[] w fun e w' => ∃ v0_ : Value, e = .returned (v0_) ∧ Kd.S k49 49 w' w.heap.size (fun _ => True) v0_ r ∧ Below w.heap.size w w' := by
  have hu49 := Try.underlying49
  have HB := Aside0.mk (Below.refl w.heap.size w)
  have H : (some (([(⟨1, ([] : List Int)⟩ : S49)] : List (S49)))) = some r := h
  clear h
  obtain ⟨y267, hy267⟩ : ∃ y_ : List (S49), y_ = (([(⟨1, ([] : List Int)⟩ : S49)] : List (S49))) := ⟨_, rfl⟩
  replace H : (some y267) = some r := by first | (rw [hy267]; with_reducible exact H) | (have H2_ := (Option.bind_some _ _).symm.trans H; rw [hy267]; with_reducible exact H2_) | (have H2_ := (Option.bind_some _ _).symm.trans H; with_reducible exact H2_) | with_reducible exact H | (rw [hy267]; exact H) | exact H
  have Ny267 := Aside0.mk hy267
  clear hy267
  obtain rfl := Option.some.inj H
  go_enter Try.func89, Try.ntmps89
  go_wp2_with (first | ((with_reducible refine gate_dst (N := 2) rfl ?_); refine Kd.S_lit k49 _ 49 ?hg (N := 2) ?hd (xs := ([(⟨1, ([] : List Int)⟩ : S49)] : List (S49))) (inner := [.int .i64 1, .slice none 0 0]) (ok := fun _ => True) (okp := fun _ => True) ?hr ?hp (fun _ hk => hk) trivial (Below.refl _ _) (Nat.le_refl _) (by simp) ?_; (case hd => rfl); (case hg => rfl); (case hr => first | (go_simp; done) | (go_simp; rfl)); (case hp => exact (Reps.c2 (show Kd.M k49 _ _ _ (⟨1, ([] : List Int)⟩ : S49) [.int .i64 1, .slice none 0 0] from (k49_mkM _ _ _ (⟨1, ([] : List Int)⟩ : S49) (Kd.R_nil _ _ _ _ _))) (Reps.none _ _))); intro v268 w1 ho2 hb hg_ hnew_; clear hg_ hnew_; (first | rw [← Ny267.out] at ho2 | (simp only [Int.reduceToNat] at ho2; rw [← Ny267.out] at ho2)); have n0_ := Aside0.mk (Kd.S_lower ho2 (below_size (by repeat (first | (with_reducible first | exact HB.out | apply below_alloc | apply pw_below_drewN | apply below_drew1) | exact HB.out | exact Below.refl _ _)))); have n1_ := Aside0.mk (below_step (by repeat (first | (with_reducible first | exact HB.out | apply below_alloc | apply pw_below_drewN | apply below_drew1) | exact HB.out | exact Below.refl _ _)) hb); clear HB; have HO269 := n0_; have HB := n1_; clear n0_ n1_; clear hb ho2))
  go_ret
  exact ⟨_, by first | rfl | (simp [errW_none, errW_some] <;> rfl) | (simp [*, errW_none, errW_some] <;> rfl), by (with_reducible repeat (first | apply Kd.S_alloc | apply Kd.S_drewN | apply Kd.S_drew)); exact HO269.out, by repeat (first | (with_reducible first | exact HB.out | apply below_alloc | apply pw_below_drewN | apply below_drew1) | exact HB.out | exact Below.refl _ _)⟩

/-! ### impl_Re: function 113 -/
def impl_Re.f (l0 : List (List S49)) : Option (List S49) := if l0.flatten.length < 4398046511104 then some l0.flatten else none
set_option maxHeartbeats 8000000 in
set_option maxRecDepth 100000 in
theorem growRe (n : Int) (h0 : 0 ≤ n) (h1 : n < 4398046511104) (w : World) :
    Calls Try.prog 130 #[.slice none 0 0, .int .i64 n] w fun e w' => ∃ v : Value, e = .returned v ∧ Kd.N k49 49 w' w.heap.size (fun k_ => w.heap.size ≤ k_) v [] ∧ Below w.heap.size w w' := by
  have hu49 := Try.underlying49
  have c0 : decide (n < 0) = false := decide_eq_false (by omega)
  by_cases hz : 0 < n
  · have c1 : decide (0 < n) = true := decide_eq_true hz
    have HZ := Aside0.mk hz
    have H0 := Aside0.mk h0
    have HL := Aside0.mk h1
    clear hz
    go_enter Try.func130, Try.ntmps130
    go_wp2_with ((with_reducible refine gate_builtin (b := .append) (xs := #[.tmp 20, .tmp 21]) rfl ?_); at_builtin; refine Kd.R_append_zeros k49 (w0 := w) w.heap.size rfl (.tmp 20) (.tmp 21) 25 3 49 (.agg #[(.int .i64 0), (.slice none 0 0)]) 32 rfl Try.underlying25 Try.underlying3 info49 rfl (by decide) (by decide) (.slice none 0 0) [] (⟨0, []⟩ : S49) n (fun k_ => w.heap.size ≤ k_) rfl rfl (k49_mkM _ _ _ (⟨0, []⟩ : S49) (Kd.R_nil _ _ _ _ _)) (fun _ hk => hk) (Kd.R_nil _ _ _ _ _) H0.out (by repeat (first | (with_reducible first | exact Below.refl _ _ | apply pw_below_drewN | apply below_drew1 | apply below_alloc))) (by simp) (by have := HL.out; simp; omega) ?_; intro v1 w6 ho hb hg hat; clear hg hat; rw [List.nil_append] at ho; have HO := Aside0.mk ho; have HB := Aside0.mk hb; clear ho hb; obtain ⟨g5, co5, eo5, _⟩ := Kd.R_form HO.out (by rw [List.length_replicate]; have := HZ.out; omega); subst eo5)
    go_ret
    exact ⟨_, rfl, Kd.R_N (Kd.R_take HO.out (m := 0) (Nat.zero_le _)), HB.out⟩
  · have c1 : decide (0 < n) = false := decide_eq_false hz
    have hn : n = 0 := by omega
    have HN := Aside0.mk hn
    clear hz hn
    go_enter Try.func130, Try.ntmps130
    go_wp2
    go_ret
    exact ⟨_, rfl, Kd.N_nil _ _ _ _ _, by repeat (first | (with_reducible first | exact Below.refl _ _ | apply pw_below_drewN | apply below_drew1 | apply below_alloc))⟩
theorem flat_le {α : Type} : ∀ (l : List (List α)) (k : Nat), (l.take k).flatten.length ≤ l.flatten.length
  | [], _ => by simp
  | _ :: _, 0 => by simp
  | x :: l, k + 1 => by have := flat_le l k; simp only [List.take_succ_cons, List.flatten_cons, List.length_append]; omega
theorem flat_snoc {α : Type} (l : List (List α)) (k : Nat) (h : k < l.length) : (l.take (k + 1)).flatten = (l.take k).flatten ++ l[k] := by
  rw [List.take_succ_eq_append_getElem h, List.flatten_append]; simp
/-- How many elements the first lists have. -/
def sumL {α : Type} (l : List (List α)) (k : Nat) : Nat := (l.take k).flatten.length
theorem sumL_zero {α : Type} (l : List (List α)) : sumL l 0 = 0 := by simp [sumL]
theorem sumL_succ {α : Type} (l : List (List α)) (k : Nat) (h : k < l.length) : sumL l (k + 1) = sumL l k + l[k].length := by
  unfold sumL; rw [flat_snoc l k h, List.length_append]
theorem sumL_le {α : Type} (l : List (List α)) (k : Nat) : sumL l k ≤ l.flatten.length := flat_le l k
theorem sumL_all {α : Type} (l : List (List α)) : sumL l l.length = l.flatten.length := by unfold sumL; rw [List.take_length]
theorem catRow {α : Type} {d : Kd α} {e T n c base : Nat} {P0 : Nat → Prop} {w W : World} {A : Option Addr} {l0 : List (List α)} (hb : Below w.heap.size w W) (h : Kd.V (Kd.slice e d) T w base P0 (.slice A n c) l0) (k : Nat) (hk : k < l0.length) :
    ∃ ad A1 c1, A = some ad ∧ W.cell? (ad.add k) = some (.slice A1 l0[k].length c1) ∧ l0[k].length ≤ c1 ∧ Kd.F d W (fun q => P0 q ∧ q < w.heap.size) A1 l0[k].length l0[k] := by
  obtain ⟨hn, _, hF⟩ := Kd.V_at h
  obtain ⟨ad, cs, hA, _, hFK, hcc, _⟩ := Kd.F_get (Kd.F_old hF hb) [] (k : Int) (by omega) (by omega)
  have he : l0.getD (k : Int).toNat [] = l0[k] := by simp [List.getD_eq_getElem?_getD, hk]
  rw [he] at hFK
  obtain ⟨A1, c1, hcs, hl, hF1⟩ := Kd.FK_slice_open hFK
  subst hcs
  refine ⟨ad, A1, c1, hA, ?_, hl, hF1⟩
  have := hcc 0 _ rfl
  simp only [Int.toNat_natCast] at this
  rw [show k * (Kd.slice e d).sz + 0 = k from by show k * 1 + 0 = k; omega] at this
  exact this
set_option maxHeartbeats 8000000 in
set_option maxRecDepth 100000 in
theorem impl_Re.calls (P0_ : Nat → Prop) (A0 : Option Addr) (c0 : Nat) (l0 : List (List S49)) (r : List S49) (w : World) (hs0 : Kd.V (Kd.slice 49 k49) 25 w w.heap.size (fun k_ => P0_ k_) (.slice A0 l0.length c0) l0) (h : impl_Re.f l0 = some r) :
    Calls Try.prog 113 #[.slice A0 l0.length c0] w fun e w' => ∃ v0_ : Value, e = .returned (v0_) ∧ Kd.N k49 49 w' w.heap.size (fun k_ => (P0_ k_ ∨ w.heap.size ≤ k_)) v0_ r ∧ Below w.heap.size w w' := by
  have hu49 := Try.underlying49
  unfold impl_Re.f at h
  split at h
  case isFalse => cases h
  case isTrue hlt =>
    obtain rfl := Option.some.inj h
    clear h
    have HL := Aside0.mk hlt
    have HV := Aside0.mk hs0
    have hn : l0.length ≤ 9223372036854775807 := (Kd.V_reads' hs0).2.2.2.1
    clear hs0 hlt
    go_enter Try.func113, Try.ntmps113
    go_wp2
    go_loopg [3, 11] l0.length (fun gg v3 v11 wr => ∃ kk : Nat, kk ≤ l0.length ∧ l0.length - kk ≤ gg ∧ v3 = .int .i64 (sumL l0 kk : Nat) ∧ v11 = .int .i64 kk ∧ Aside0 (Below w.heap.size w wr))
    case atStart => exact ⟨0, Nat.zero_le _, by omega, by rw [sumL_zero]; rfl, rfl, ⟨Below.refl _ _⟩⟩
    case round =>
      obtain ⟨kk, hkk, hg, rfl, rfl, HB⟩ := hrel
      by_cases hlt : kk < l0.length
      · have hltz : (kk : Int) < (l0.length : Int) := by omega
        obtain ⟨ad, A1, c1, e0, hx0, hcl, hF⟩ := catRow HB.out HV.out kk hlt
        subst e0
        have hs := sumL_succ l0 kk hlt
        have hsum : sumL l0 kk + l0[kk].length ≤ 4398046511104 := by
          have := HL.out
          have := sumL_le l0 (kk + 1)
          omega
        have HS := Aside0.mk hs
        clear hs hF hcl
        go_wp2
        go_roundg (l0.length - (kk + 1))
        case measure => omega
        case rel => exact ⟨kk + 1, by omega, by omega, by rw [HS.out]; go_num, by go_num, HB⟩
      · have hk2 : kk = l0.length := by omega
        subst hk2
        have hsum := sumL_le l0 l0.length
        have hb2 : sumL l0 l0.length < 4398046511104 := by have := HL.out; omega
        clear hlt hsum
        go_wp2_with (go_at_call 130; refine (growRe _ (Int.natCast_nonneg _) (by omega) _).mono ?_; rintro e w1 ⟨v1, rfl, ho, hb⟩; have HO := Aside0.mk ho; have HB1 := Aside0.mk (HB.out.trans (hb.mono HB.out.size)); clear ho hb)
        have HO2 := Aside0.mk (Kd.N_mono (Kd.N_lower HO.out HB.out.size) (ok' := fun k_ => P0_ k_ ∨ w.heap.size ≤ k_) (fun k_ hk => .inr (Nat.le_trans HB.out.size hk)))
        clear HO HB hb2
        go_loopg [6, 27] l0.length (fun gg v6 v27 wr => ∃ kk : Nat, kk ≤ l0.length ∧ l0.length - kk ≤ gg ∧ v27 = .int .i64 kk ∧ Aside0 (Kd.N k49 49 wr w.heap.size (fun k_ => P0_ k_ ∨ w.heap.size ≤ k_) v6 (l0.take kk).flatten) ∧ Aside0 (Below w.heap.size w wr))
        case atStart => exact ⟨0, Nat.zero_le _, by omega, rfl, by simpa using HO2, HB1⟩
        case round =>
          clear HO2 HB1
          obtain ⟨kk, hkk, hg, rfl, HO, HB⟩ := hrel
          by_cases hlt : kk < l0.length
          · have hltz : (kk : Int) < (l0.length : Int) := by omega
            obtain ⟨ad, A1, c1, e0, hx0, hcl, hF⟩ := catRow HB.out HV.out kk hlt
            subst e0
            have hs := sumL_succ l0 kk hlt
            have hsum : sumL l0 kk + l0[kk].length ≤ 4398046511104 := by
              have := HL.out
              have := sumL_le l0 (kk + 1)
              omega
            have HSM := Aside0.mk hsum
            have HFS := Aside0.mk (flat_snoc l0 kk hlt)
            have HFF := Aside0.mk hF
            clear hs hF hcl hsum
            go_wp2_with ((with_reducible refine gate_builtin (b := .append) (xs := #[.tmp 31, .tmp 32]) rfl ?_); at_builtin; refine Kd.N_append_rows k49 (w0 := w) w.heap.size rfl (.tmp 31) (.tmp 32) 25 49 (.agg #[(.int .i64 0), (.slice none 0 0)]) 32 rfl Try.underlying25 info49 rfl (by decide) (by decide) u6 ((l0.take kk).flatten) l0[kk] _ _ _ (fun k_ => P0_ k_ ∨ w.heap.size ≤ k_) (fun k_ => P0_ k_ ∧ k_ < w.heap.size) rfl rfl HO.out HFF.out (fun k_ hk => ⟨.inl hk.1, fun e => Nat.not_le.2 hk.2 (Kd.N_base HO.out k_ e.symm)⟩) (fun k_ hk => .inr (Nat.le_trans HB.out.size hk)) HB.out HB.out.size (by have := HSM.out; unfold sumL at this; omega) ?_; intro v1 w6 ho hb hg hat; clear hg hat; rw [← HFS.out] at ho; have HO9 := Aside0.mk ho; have HB9 := Aside0.mk hb; clear ho hb)
            go_roundg (l0.length - (kk + 1))
            case measure => omega
            case rel => exact ⟨kk + 1, by omega, by omega, by go_num, HO9, HB9⟩
          · have hk2 : kk = l0.length := by omega
            subst hk2
            clear hlt
            go_wp2
            go_ret
            exact ⟨_, rfl, by have := HO.out; rwa [List.take_length] at this, HB.out⟩

/-! ### impl_node: function 90 -/
def impl_node.f (a0 : Int) (l1 : List (List (S49))) : Option ((List (S49))) := (impl_Re.f l1).bind fun t270 => (if t270.length < 4398046511104 then (some (t270 ++ [(⟨a0, ([] : List Int)⟩ : S49)])) else (none))
set_option maxHeartbeats 8000000 in
set_option maxRecDepth 100000 in
theorem impl_node.calls (a0 : Int) (P1_ : Nat → Prop) (A1 : Option Addr) (c1 : Nat) (l1 : List (List (S49))) (r : List (S49)) (w : World) (hs1 : Kd.V (Kd.slice 49 k49) 25 w w.heap.size (fun k_ => P1_ k_) (.slice A1 l1.length c1) l1) (h : impl_node.f a0 l1 = some r) :
    Calls Try.prog 90 #[.int .i64 a0, .slice A1 l1.length c1] w fun e w' => ∃ v0_ : Value, e = .returned (v0_) ∧ Kd.N k49 49 w' w.heap.size (fun k_ => (P1_ k_ ∨ w.heap.size ≤ k_)) v0_ r ∧ Below w.heap.size w w' := by
  have hu49 := Try.underlying49
  have HO1 := Aside0.mk (show Kd.V (Kd.slice 49 k49) 25 w w.heap.size (fun k_ => (P1_ k_ ∨ w.heap.size ≤ k_)) (.slice A1 l1.length c1) l1 from Kd.V_mono hs1 (fun k_ hk => .inl hk))
  have HB := Aside0.mk (Below.refl w.heap.size w)
  have H : ((impl_Re.f l1).bind fun t270 => (if t270.length < 4398046511104 then (some (t270 ++ [(⟨a0, ([] : List Int)⟩ : S49)])) else (none))) = some r := h
  clear h
  replace H := Option.bind_eq_some_iff.mp H
  obtain ⟨t270, A30, H⟩ := H
  replace H : (if t270.length < 4398046511104 then (some (t270 ++ [(⟨a0, ([] : List Int)⟩ : S49)])) else (none)) = some r := H
  have A3 := Aside0.mk A30
  clear A30
  by_cases c4 : t270.length < 4398046511104
  · rw [if_pos c4] at H
    have LMc4 := Aside0.mk c4
    clear c4
    obtain ⟨y273, hy273⟩ : ∃ y_ : List (S49), y_ = (t270 ++ [(⟨a0, ([] : List Int)⟩ : S49)]) := ⟨_, rfl⟩
    replace H : (some y273) = some r := by first | (rw [hy273]; with_reducible exact H) | (have H2_ := (Option.bind_some _ _).symm.trans H; rw [hy273]; with_reducible exact H2_) | (have H2_ := (Option.bind_some _ _).symm.trans H; with_reducible exact H2_) | with_reducible exact H | (rw [hy273]; exact H) | exact H
    have Ny273 := Aside0.mk hy273
    clear hy273
    obtain rfl := Option.some.inj H
    go_enter Try.func90, Try.ntmps90
    go_wp2_with (first | ((with_reducible refine gate_callee (f := 113) rfl ?_); refine goesL_ (some 6) rfl rfl Try.func113 (by kernel_rfl) rfl #[.slice A1 l1.length c1] rfl (by (try simp only [List.map_toArray, List.map_cons, List.map_nil]); first | done | rfl | (simp only [List.length_drop, List.length_take]; rfl)) ?_; (with_reducible refine (impl_Re.calls (fun k_ => (P1_ k_ ∨ w.heap.size ≤ k_)) _ _ l1 t270 _ ?side1 A3.out).mono ?_); (case side1 => exact HO1.out); rintro e w5 ⟨v271, rfl, ho0, hb⟩; refine ⟨_, rfl, ?_⟩; have n0_ := Aside0.mk (Kd.V_elder' (by (with_reducible repeat (first | apply Kd.V_alloc | apply Kd.V_drewN | apply Kd.V_drew)); exact HO1.out) (by first | exact Kd.N_base ho0 | exact Kd.S_base ho0 | exact Kd.R_base ho0) hb); have n1_ := Aside0.mk (Kd.N_lower (Kd.N_mono (ok' := fun k_ => (P1_ k_ ∨ w.heap.size ≤ k_)) ho0 (fun k_ hk_ => Or.elim hk_ (fun hs_ => hs_) (fun hn_ => (.inr (Nat.le_trans (below_size (by repeat (first | (with_reducible first | exact HB.out | apply below_alloc | apply pw_below_drewN | apply below_drew1) | exact HB.out | exact Below.refl _ _))) hn_))))) (below_size (by repeat (first | (with_reducible first | exact HB.out | apply below_alloc | apply pw_below_drewN | apply below_drew1) | exact HB.out | exact Below.refl _ _)))); have n2_ := Aside0.mk (below_step (by repeat (first | (with_reducible first | exact HB.out | apply below_alloc | apply pw_below_drewN | apply below_drew1) | exact HB.out | exact Below.refl _ _)) hb); clear HO1; clear HB; have HO1 := n0_; have HO272 := n1_; have HB := n2_; clear n0_ n1_ n2_; (try clear hb); (try clear hb2); (try clear hk); (try clear hi); (try clear ho0)) | ((with_reducible refine gate_builtin (b := .append) (xs := #[.tmp 6, .tmp 9]) rfl ?_); at_builtin; refine Kd.N_append k49 (w0 := w) w.heap.size rfl (.tmp 6) (.tmp 9) 25 49 (.agg #[(.int .i64 0), (.slice none 0 0)]) 32 rfl Try.underlying25 info49 rfl (by decide) (by omega) v271 t270 (⟨a0, ([] : List Int)⟩ : S49) [.int .i64 a0, .slice none 0 0] (fun k_ => (P1_ k_ ∨ w.heap.size ≤ k_)) (fun k_ => ((fun k_ => (P1_ k_ ∨ w.heap.size ≤ k_))) k_ ∧ some k_ ≠ (v271 : Value).ownBlock) rfl rfl ?aP (fun _ hk => hk) ?aF ?aO ?aB ?aS ?aL ?_; (case aP => exact (k49_mkF _ _ (⟨a0, ([] : List Int)⟩ : S49) (Nat.le_refl _) (Kd.F_nil _ _ _))); (case aB => exact (by repeat (first | (with_reducible first | exact HB.out | apply below_alloc | apply pw_below_drewN | apply below_drew1) | exact HB.out | exact Below.refl _ _))); (case aF => exact (fun k_ hk => (.inr (Nat.le_trans (below_size (by repeat (first | (with_reducible first | exact HB.out | apply below_alloc | apply pw_below_drewN | apply below_drew1) | exact HB.out | exact Below.refl _ _))) hk)))); (case aO => exact (by (with_reducible repeat (first | apply Kd.N_alloc | apply Kd.N_drewN | apply Kd.N_drew)); exact HO272.out)); (case aS => exact (below_size (by repeat (first | (with_reducible first | exact HB.out | apply below_alloc | apply pw_below_drewN | apply below_drew1) | exact HB.out | exact Below.refl _ _)))); (case aL => have := LMc4.out; omega); intro v274 w6 ho hb hg hat; rw [← Ny273.out] at ho; have n0_ := Aside0.mk (Kd.V_afterv (ok := (fun k_ => (P1_ k_ ∨ w.heap.size ≤ k_))) (by (with_reducible repeat (first | apply Kd.V_alloc | apply Kd.V_drewN | apply Kd.V_drew)); exact HO1.out) hg hat); have n1_ := Aside0.mk (hb); have n2_ := Aside0.mk (ho); clear HO1; clear HB; clear HO272; have HO1 := n0_; have HB := n1_; have HO275 := n2_; clear n0_ n1_ n2_; clear ho hb hg hat))
    go_ret
    exact ⟨_, by first | rfl | (simp [errW_none, errW_some] <;> rfl) | (simp [*, errW_none, errW_some] <;> rfl), by (with_reducible repeat (first | apply Kd.N_alloc | apply Kd.N_drewN | apply Kd.N_drew)); exact HO275.out, by repeat (first | (with_reducible first | exact HB.out | apply below_alloc | apply pw_below_drewN | apply below_drew1) | exact HB.out | exact Below.refl _ _)⟩
  · rw [if_neg c4] at H
    exact absurd H (by simp)

/-! ### impl_nothing: function 108 -/
def impl_nothing.f  : Option ((List (S49))) := some (([(⟨2, ([] : List Int)⟩ : S49)] : List (S49)))
set_option maxHeartbeats 8000000 in
set_option maxRecDepth 100000 in
theorem impl_nothing.calls  (r : List (S49)) (w : World) (h : impl_nothing.f  = some r) :
    Calls Try.prog 108 #[] w fun e w' => ∃ v0_ : Value, e = .returned (v0_) ∧ Kd.S k49 49 w' w.heap.size (fun _ => True) v0_ r ∧ Below w.heap.size w w' := by
  have hu49 := Try.underlying49
  have HB := Aside0.mk (Below.refl w.heap.size w)
  have H : (some (([(⟨2, ([] : List Int)⟩ : S49)] : List (S49)))) = some r := h
  clear h
  obtain ⟨y276, hy276⟩ : ∃ y_ : List (S49), y_ = (([(⟨2, ([] : List Int)⟩ : S49)] : List (S49))) := ⟨_, rfl⟩
  replace H : (some y276) = some r := by first | (rw [hy276]; with_reducible exact H) | (have H2_ := (Option.bind_some _ _).symm.trans H; rw [hy276]; with_reducible exact H2_) | (have H2_ := (Option.bind_some _ _).symm.trans H; with_reducible exact H2_) | with_reducible exact H | (rw [hy276]; exact H) | exact H
  have Ny276 := Aside0.mk hy276
  clear hy276
  obtain rfl := Option.some.inj H
  go_enter Try.func108, Try.ntmps108
  go_wp2_with (first | ((with_reducible refine gate_dst (N := 2) rfl ?_); refine Kd.S_lit k49 _ 49 ?hg (N := 2) ?hd (xs := ([(⟨2, ([] : List Int)⟩ : S49)] : List (S49))) (inner := [.int .i64 2, .slice none 0 0]) (ok := fun _ => True) (okp := fun _ => True) ?hr ?hp (fun _ hk => hk) trivial (Below.refl _ _) (Nat.le_refl _) (by simp) ?_; (case hd => rfl); (case hg => rfl); (case hr => first | (go_simp; done) | (go_simp; rfl)); (case hp => exact (Reps.c2 (show Kd.M k49 _ _ _ (⟨2, ([] : List Int)⟩ : S49) [.int .i64 2, .slice none 0 0] from (k49_mkM _ _ _ (⟨2, ([] : List Int)⟩ : S49) (Kd.R_nil _ _ _ _ _))) (Reps.none _ _))); intro v277 w1 ho2 hb hg_ hnew_; clear hg_ hnew_; (first | rw [← Ny276.out] at ho2 | (simp only [Int.reduceToNat] at ho2; rw [← Ny276.out] at ho2)); have n0_ := Aside0.mk (Kd.S_lower ho2 (below_size (by repeat (first | (with_reducible first | exact HB.out | apply below_alloc | apply pw_below_drewN | apply below_drew1) | exact HB.out | exact Below.refl _ _)))); have n1_ := Aside0.mk (below_step (by repeat (first | (with_reducible first | exact HB.out | apply below_alloc | apply pw_below_drewN | apply below_drew1) | exact HB.out | exact Below.refl _ _)) hb); clear HB; have HO278 := n0_; have HB := n1_; clear n0_ n1_; clear hb ho2))
  go_ret
  exact ⟨_, by first | rfl | (simp [errW_none, errW_some] <;> rfl) | (simp [*, errW_none, errW_some] <;> rfl), by (with_reducible repeat (first | apply Kd.S_alloc | apply Kd.S_drewN | apply Kd.S_drew)); exact HO278.out, by repeat (first | (with_reducible first | exact HB.out | apply below_alloc | apply pw_below_drewN | apply below_drew1) | exact HB.out | exact Below.refl _ _)⟩

/-! ### slices_Equal_int_int: function 127 -/
def slices_Equal_int_int.l0 : Nat → List Int → List Int → Int → Int → Option (Bool)
  | 0, _, _, _, _ => none
  | k + 1, x0, x1, x12, x13 => if x13 < x12 then (if 0 ≤ x13 then (if x13 < (x0.length : Int) then (if x13 < (x1.length : Int) then (if (rd x0 x13) = (rd x1 x13) then (slices_Equal_int_int.l0 k x0 x1 x12 (wrap64 (x13 + 1))) else (some false)) else (none)) else (none)) else (none)) else (some true)
def slices_Equal_int_int.f (k : Nat) (l0 : List Int) (l1 : List Int) : Option (Bool) := if (l0.length : Int) = (l1.length : Int) then (slices_Equal_int_int.l0 k l0 l1 (l0.length : Int) 0) else (some false)
theorem slices_Equal_int_int.mono_l : ∀ k, (∀ y0 y1 y2 y3, LeO (slices_Equal_int_int.l0 k y0 y1 y2 y3) (slices_Equal_int_int.l0 (k + 1) y0 y1 y2 y3))
  | 0 => fun _ _ _ _ r h => by simp [slices_Equal_int_int.l0] at h
  | k + 1 => by
    have ih0 := slices_Equal_int_int.mono_l k
    · intro y0 y1 y2 y3
      unfold slices_Equal_int_int.l0
      repeat' first
      | (with_reducible exact ih0 _ _ _ _)
      | (with_reducible exact LeO.refl _)
      | (with_reducible exact LeO.none _)
      | (with_reducible refine LeO.ite ?_ ?_)
      | (with_reducible refine LeO.bind ?_ (fun _ => ?_))
      | exact ih0 _ _ _ _
      | exact LeO.none _
      | refine LeO.ite ?_ ?_
      | refine LeO.bind ?_ (fun _ => ?_)
theorem slices_Equal_int_int.mono : ∀ a0 a1 k, LeO (slices_Equal_int_int.f k a0 a1) (slices_Equal_int_int.f (k + 1) a0 a1) := by
  intro a0 a1 k
  have ih0 := slices_Equal_int_int.mono_l k
  unfold slices_Equal_int_int.f
  repeat' first
      | (with_reducible exact ih0 _ _ _ _)
      | (with_reducible exact LeO.refl _)
      | (with_reducible exact LeO.none _)
      | (with_reducible refine LeO.ite ?_ ?_)
      | (with_reducible refine LeO.bind ?_ (fun _ => ?_))
      | exact ih0 _ _ _ _
      | exact LeO.none _
      | refine LeO.ite ?_ ?_
      | refine LeO.bind ?_ (fun _ => ?_)
set_option maxHeartbeats 8000000 in
set_option maxRecDepth 100000 in
theorem slices_Equal_int_int.calls (k : Nat) (A0 : Option Addr) (c0 : Nat) (l0 : List Int) (A1 : Option Addr) (c1 : Nat) (l1 : List Int) (r : Bool) (w : World) (hr0 : Kd.C (Kd.int .i64) w A0 l0.length l0) (hc0 : l0.length ≤ c0) (hr1 : Kd.C (Kd.int .i64) w A1 l1.length l1) (hc1 : l1.length ≤ c1) (h : slices_Equal_int_int.f k l0 l1 = some r) :
    Calls Try.prog 127 #[.slice A0 l0.length c0, .slice A1 l1.length c1] w fun e w' => e = .returned (.bool r) ∧ Drawn0 w w' := by
  have HR0 := Aside0.mk hr0
  have HC0 := Aside0.mk hc0
  clear hr0 hc0
  have HR1 := Aside0.mk hr1
  have HC1 := Aside0.mk hc1
  clear hr1 hc1
  have H : (if (l0.length : Int) = (l1.length : Int) then (slices_Equal_int_int.l0 k l0 l1 (l0.length : Int) 0) else (some false)) = some r := h
  clear h
  by_cases c3 : (l0.length : Int) = (l1.length : Int)
  · rw [if_pos c3] at H
    have c3b0 : ((l0.length : Int) == (l1.length : Int)) = true := beq_iff_eq.mpr c3
    have c3b1 : ((l0.length : Int) != (l1.length : Int)) = false := bne_eq_false_iff_eq.mpr c3
    have c3b2 : (l0.length == l1.length) = true := by first | simpa using c3 | (simp at c3 ⊢; omega)
    clear c3
    have H' := Aside0.mk H
    clear H
    go_enter Try.func127, Try.ntmps127
    go_wp2
    repeat (go_quiet (fail); try go_wp2)
    go_loopg [13] k (fun kq v13 w' => ∃ (x13_1 : Int), v13 = .int .i64 x13_1 ∧ Aside0 (slices_Equal_int_int.l0 kq l0 l1 (l0.length : Int) x13_1 = some r) ∧ Aside0 (kq ≤ k) ∧ Drawn0 w w')
    case atStart => exact ⟨(0), (by first | rfl | (simp; done) | (simp [*]; done)), H', ⟨Nat.le_refl _⟩, by repeat (first | exact Drawn0.refl _ | apply Drawn0.step)⟩
    case round =>
      clear H'
      try clear c1
      try clear p2
      try clear c3
      try clear c3b0
      try clear c3b1
      try clear c3b2
      obtain ⟨x13_1, rfl, HA, HK1, ⟨m1, rfl⟩⟩ := hrel
      cases gk with
      | zero => exact absurd HA.out (by simp [slices_Equal_int_int.l0])
      | succ k1 =>
        have H := HA.out
        clear HA
        simp only [slices_Equal_int_int.l0] at H
        by_cases c4 : x13_1 < (l0.length : Int)
        · rw [if_pos c4] at H
          have c4b0 : decide (x13_1 < (l0.length : Int)) = true := decide_eq_true c4
          clear c4
          by_cases c5 : 0 ≤ x13_1
          · rw [if_pos c5] at H
            have c5b0 : decide (0 ≤ x13_1) = true := decide_eq_true c5
            clear c5
            by_cases c6 : x13_1 < (l0.length : Int)
            · rw [if_pos c6] at H
              have c6b0 : decide (x13_1 < (l0.length : Int)) = true := decide_eq_true c6
              clear c6
              by_cases c7 : x13_1 < (l1.length : Int)
              · rw [if_pos c7] at H
                have c7b0 : decide (x13_1 < (l1.length : Int)) = true := decide_eq_true c7
                clear c7
                by_cases c8 : (rd l0 x13_1) = (rd l1 x13_1)
                · rw [if_pos c8] at H
                  have c8b0 : ((rd l0 x13_1) == (rd l1 x13_1)) = true := beq_iff_eq.mpr c8
                  have c8b1 : ((rd l0 x13_1) != (rd l1 x13_1)) = false := bne_eq_false_iff_eq.mpr c8
                  clear c8
                  have H' := Aside0.mk H
                  clear H
                  have p279 : 0 ≤ (x13_1 : Int) := of_decide_eq_true (by first | (with_reducible assumption) | assumption)
                  have q279 : x13_1 < (l0.length : Int) := of_decide_eq_true (by first | (with_reducible assumption) | assumption)
                  obtain ⟨ad279, e279, hx279_0⟩ := Kd.at_int HR0.out x13_1 p279 q279
                  cases e279
                  replace p279 := eq_true p279
                  replace q279 := eq_true q279
                  have p280 : 0 ≤ (x13_1 : Int) := of_decide_eq_true (by first | (with_reducible assumption) | assumption)
                  have q280 : x13_1 < (l1.length : Int) := of_decide_eq_true (by first | (with_reducible assumption) | assumption)
                  obtain ⟨ad280, e280, hx280_0⟩ := Kd.at_int HR1.out x13_1 p280 q280
                  cases e280
                  replace p280 := eq_true p280
                  replace q280 := eq_true q280
                  go_wp2
                  repeat (go_quiet (fail); try go_wp2)
                  go_roundg k1
                  case measure => have := HK1.out; omega
                  case rel => exact ⟨(wrap64 (x13_1 + 1)), (by first | rfl | (simp; done) | (simp [*]; done)), H', ⟨by have := HK1.out; omega⟩, by repeat (first | exact Drawn0.refl _ | apply Drawn0.step)⟩
                · rw [if_neg c8] at H
                  have c8b0 : ((rd l0 x13_1) == (rd l1 x13_1)) = false := beq_eq_false_iff_ne.mpr c8
                  have c8b1 : ((rd l0 x13_1) != (rd l1 x13_1)) = true := bne_iff_ne.mpr c8
                  obtain rfl := Option.some.inj H
                  have p279 : 0 ≤ (x13_1 : Int) := of_decide_eq_true (by first | (with_reducible assumption) | assumption)
                  have q279 : x13_1 < (l0.length : Int) := of_decide_eq_true (by first | (with_reducible assumption) | assumption)
                  obtain ⟨ad279, e279, hx279_0⟩ := Kd.at_int HR0.out x13_1 p279 q279
                  cases e279
                  replace p279 := eq_true p279
                  replace q279 := eq_true q279
                  have p280 : 0 ≤ (x13_1 : Int) := of_decide_eq_true (by first | (with_reducible assumption) | assumption)
                  have q280 : x13_1 < (l1.length : Int) := of_decide_eq_true (by first | (with_reducible assumption) | assumption)
                  obtain ⟨ad280, e280, hx280_0⟩ := Kd.at_int HR1.out x13_1 p280 q280
                  cases e280
                  replace p280 := eq_true p280
                  replace q280 := eq_true q280
                  go_wp2
                  repeat (go_quiet (fail); try go_wp2)
                  go_ret
                  exact ⟨by first | rfl | (simp; done) | (simp [*]; done), by repeat (first | exact Drawn0.refl _ | apply Drawn0.step)⟩
              · rw [if_neg c7] at H
                exact absurd H (by simp)
            · rw [if_neg c6] at H
              exact absurd H (by simp)
          · rw [if_neg c5] at H
            exact absurd H (by simp)
        · rw [if_neg c4] at H
          have c4b0 : decide (x13_1 < (l0.length : Int)) = false := decide_eq_false c4
          (try rw [hl0_1] at c4b0)
          clear c4
          obtain rfl := Option.some.inj H
          go_wp2
          repeat (go_quiet (fail); try go_wp2)
          go_ret
          exact ⟨by first | rfl | (simp; done) | (simp [*]; done), by repeat (first | exact Drawn0.refl _ | apply Drawn0.step)⟩
  · rw [if_neg c3] at H
    have c3b0 : ((l0.length : Int) == (l1.length : Int)) = false := beq_eq_false_iff_ne.mpr c3
    have c3b1 : ((l0.length : Int) != (l1.length : Int)) = true := bne_iff_ne.mpr c3
    have c3b2 : (l0.length == l1.length) = false := by first | simpa using c3 | (simp at c3 ⊢; omega)
    obtain rfl := Option.some.inj H
    go_enter Try.func127, Try.ntmps127
    go_wp2
    repeat (go_quiet (fail); try go_wp2)
    go_ret
    exact ⟨by first | rfl | (simp; done) | (simp [*]; done), by repeat (first | exact Drawn0.refl _ | apply Drawn0.step)⟩

end Go.Proofs.Ytlmpeaelpchokaa.HFnExactTidyRe
