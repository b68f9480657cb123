/- Written by wip/pr.py of this session, for the law FnExactTidyRe: Lean functions with the answers of the program's, and the proofs of that; where the kit's print has no word, by hand. -/
import Derived.Test.YtlmpeaelpchokaaHFnExactTidyRex0
import Derived.Test.YtlmpeaelpchokaaHFnExactTidyRex5
import Derived.Test.YtlmpeaelpchokaaHFnExactTidyRex8
import Derived.Test.YtlmpeaelpchokaaHFnExactTidyRex9
import Derived.Test.YtlmpeaelpchokaaHFnExactTidyRex10
namespace Go.Proofs.Ytlmpeaelpchokaa.HFnExactTidyRe
open Go.RowKit Go.Proofs.YtlmpeaelpchokaaW.PrintWords Go.Proofs.YtlmpeaelpchokaaW.PrintLast Go.Proofs.YtlmpeaelpchokaaW.PrintMore
attribute [local go_sem] max2_int min2_int max_two min_two max_three min_three max_four min_four   -- for this text's walks alone
set_option linter.unusedVariables false
set_option linter.unusedSimpArgs false

/-! ### spec_l5Tidy: function 68 -/
def twoV (op : Int) (nA nB iA iB sm : Bool) (a b : List S49) : Option (List S49) :=
  if op = 3 then some (if nA = true then [⟨2, []⟩] else if nB = true then [⟨2, []⟩] else if iA = true then b else if iB = true then a else a ++ b ++ [⟨3, []⟩])
  else if op = 4 then some (if nA = true then b else if nB = true then a else if sm = true then a else a ++ b ++ [⟨4, []⟩])
  else if op = 5 then some (if nA = true then [⟨2, []⟩] else if nB = true then [⟨2, []⟩] else if sm = true then a else a ++ b ++ [⟨5, []⟩])
  else none
def spec_l5Two.f (k : Nat) (op : Int) (a b : List S49) : Option (List S49) :=
  (spec_l5IsNone.f a).bind fun nA => (spec_l5IsNone.f b).bind fun nB => (spec_l5IsNil.f a).bind fun iA => (spec_l5IsNil.f b).bind fun iB => (spec_l5Same.f k a b).bind fun sm => (spec_l5Own.f k a).bind fun oa => spec_l5None.f.bind fun no =>
  (if oa.length + b.length < 1099511627776 then twoV op nA nB iA iB sm a b else none).bind fun r => if oa.map (fun x => (x.f0, x.f1)) = a.map (fun x => (x.f0, x.f1)) then if no.map (fun x => (x.f0, x.f1)) = [(2, [])] then some r else none else none
theorem re_map : ∀ {a b : List S49}, a.map (fun x => (x.f0, x.f1)) = b.map (fun x => (x.f0, x.f1)) → a = b
  | [], [], _ => rfl
  | [], _ :: _, h => by simp at h
  | _ :: _, [], h => by simp at h
  | ⟨p, q⟩ :: a, ⟨p2, q2⟩ :: b, h => by
    simp only [List.map_cons, List.cons.injEq, Prod.mk.injEq] at h
    rw [h.1.1, h.1.2, re_map h.2]
theorem spec_l5Two.mono (k : Nat) (op : Int) (a b : List S49) : LeO (spec_l5Two.f k op a b) (spec_l5Two.f (k + 1) op a b) := by
  unfold spec_l5Two.f
  exact LeO.bind (LeO.refl _) (fun _ => LeO.bind (LeO.refl _) (fun _ => LeO.bind (LeO.refl _) (fun _ => LeO.bind (LeO.refl _) (fun _ => LeO.bind (spec_l5Same.mono _ _ _) (fun _ => LeO.bind (spec_l5Own.mono _ _) (fun _ => LeO.refl _))))))
set_option maxHeartbeats 8000000 in
set_option maxRecDepth 100000 in
theorem two_3_0 (k : Nat) (B : Nat) (nB iA iB sm : Bool) (A1 : Option Addr) (c1 : Nat) (l1 : List S49) (A2 : Option Addr) (c2 : Nat) (l2 : List S49) (w : World) (hB : B ≤ w.heap.size) (h1 : Kd.N k49 49 w B (fun k_ => B ≤ k_) (.slice A1 l1.length c1) l1) (h2 : Kd.N k49 49 w B (fun k_ => B ≤ k_) (.slice A2 l2.length c2) l2)
    (hnA : spec_l5IsNone.f l1 = some true) (hnB : spec_l5IsNone.f l2 = some nB) (hiA : spec_l5IsNil.f l1 = some iA) (hiB : spec_l5IsNil.f l2 = some iB) (hsm : spec_l5Same.f k l1 l2 = some sm) (hoa : spec_l5Own.f k l1 = some l1) (hno : spec_l5None.f = some [⟨2, []⟩]) (hlen : l1.length + l2.length < 1099511627776) :
    Calls Try.prog 96 #[.int .i64 3, .slice A1 l1.length c1, .slice A2 l2.length c2] w fun e w' => ∃ v0_ : Value, e = .returned v0_ ∧ Kd.N k49 49 w' B (fun k_ => B ≤ k_) v0_ [⟨2, []⟩] ∧ Below w.heap.size w w' := by
  have hu49 := Try.underlying49
  have hC1 := (Kd.N_reads' h1).2.2
  have hC2 := (Kd.N_reads' h2).2.2
  have hl1 := (Kd.N_reads' h1).2.1
  have hl2 := (Kd.N_reads' h2).2.1
  have HNA := Aside0.mk (fun (W : World) (hb : Below w.heap.size w W) => spec_l5IsNone.calls A1 c1 l1 true W (Kd.C_below hC1 hb) hl1 hnA)
  have HNB := Aside0.mk (fun (W : World) (hb : Below w.heap.size w W) => spec_l5IsNone.calls A2 c2 l2 nB W (Kd.C_below hC2 hb) hl2 hnB)
  have HIA := Aside0.mk (fun (W : World) (hb : Below w.heap.size w W) => spec_l5IsNil.calls A1 c1 l1 iA W (Kd.C_below hC1 hb) hl1 hiA)
  have HIB := Aside0.mk (fun (W : World) (hb : Below w.heap.size w W) => spec_l5IsNil.calls A2 c2 l2 iB W (Kd.C_below hC2 hb) hl2 hiB)
  have HSM := Aside0.mk (fun (W : World) (hb : Below w.heap.size w W) => spec_l5Same.calls k A1 c1 l1 A2 c2 l2 sm W (Kd.C_below hC1 hb) hl1 (Kd.C_below hC2 hb) hl2 hsm)
  have HOW := Aside0.mk (fun (W : World) (hb : Below w.heap.size w W) => (spec_l5Own.calls k A1 c1 l1 l1 W (Kd.C_below hC1 hb) hl1 hoa).mono (fun (e : Ending) (w' : World) ⟨v0, he, ho, h⟩ => (⟨v0, he, Kd.N_mono (Kd.N_lower (Kd.S_N (Kd.S_bound ho)) hb.size) (fun k_ hk => Nat.le_trans hb.size hk.2.1), hb.trans (h.mono hb.size)⟩ : ∃ v0 : Value, e = Ending.returned v0 ∧ Kd.N k49 49 w' w.heap.size (fun k_ => w.heap.size ≤ k_) v0 l1 ∧ Below w.heap.size w w')))
  have HNO := Aside0.mk (fun (W : World) (hb : Below w.heap.size w W) => (spec_l5None.calls [(⟨2, []⟩ : S49)] W hno).mono (fun (e : Ending) (w' : World) ⟨v0, he, ho, h⟩ => (⟨v0, he, Kd.N_mono (Kd.N_lower (Kd.S_N (Kd.S_bound ho)) (Nat.le_trans hB hb.size)) (fun k_ hk => Nat.le_trans (Nat.le_trans hB hb.size) hk.2.1), hb.trans (h.mono hb.size)⟩ : ∃ v0 : Value, e = Ending.returned v0 ∧ Kd.N k49 49 w' B (fun k_ => B ≤ k_) v0 [(⟨2, []⟩ : S49)] ∧ Below w.heap.size w w')))
  have H1 := Aside0.mk h1
  have H2 := Aside0.mk h2
  have HB := Aside0.mk hB
  have HLN := Aside0.mk hlen
  clear hC1 hC2 hl1 hl2 h1 h2 hnA hnB hiA hiB hsm hoa hno hB hlen
  go_enter Try.func96, Try.ntmps96
  go_wp2_with (first | (go_at_call 98; (first | (with_reducible refine (HNA.out _ ?side).mono ?_) | (with_reducible refine (HNB.out _ ?side).mono ?_)); (case side => repeat (first | (with_reducible first | exact Below.refl _ _ | apply pw_below_drewN | apply below_drew1 | apply below_alloc))); rintro e w' ⟨rfl, ⟨nd, rfl⟩⟩) | (go_at_call 97; (first | (with_reducible refine (HIA.out _ ?side).mono ?_) | (with_reducible refine (HIB.out _ ?side).mono ?_)); (case side => repeat (first | (with_reducible first | exact Below.refl _ _ | apply pw_below_drewN | apply below_drew1 | apply below_alloc))); rintro e w' ⟨rfl, ⟨nd, rfl⟩⟩) | (go_at_call 115; (first | (with_reducible refine (HSM.out _ ?side).mono ?_)); (case side => repeat (first | (with_reducible first | exact Below.refl _ _ | apply pw_below_drewN | apply below_drew1 | apply below_alloc))); rintro e w' ⟨rfl, ⟨nd, rfl⟩⟩) | (go_at_call 106; with_reducible refine (HNO.out _ ?side).mono ?_; (case side => repeat (first | (with_reducible first | exact Below.refl _ _ | apply pw_below_drewN | apply below_drew1 | apply below_alloc))); rintro e w9 ⟨v9, rfl, ho, hb⟩; have HO9 := Aside0.mk ho; have HB9 := Aside0.mk hb; clear ho hb))
  go_ret
  exact ⟨_, rfl, HO9.out, HB9.out⟩
set_option maxHeartbeats 8000000 in
set_option maxRecDepth 100000 in
theorem two_3_1 (k : Nat) (B : Nat) (iA iB sm : Bool) (A1 : Option Addr) (c1 : Nat) (l1 : List S49) (A2 : Option Addr) (c2 : Nat) (l2 : List S49) (w : World) (hB : B ≤ w.heap.size) (h1 : Kd.N k49 49 w B (fun k_ => B ≤ k_) (.slice A1 l1.length c1) l1) (h2 : Kd.N k49 49 w B (fun k_ => B ≤ k_) (.slice A2 l2.length c2) l2)
    (hnA : spec_l5IsNone.f l1 = some false) (hnB : spec_l5IsNone.f l2 = some true) (hiA : spec_l5IsNil.f l1 = some iA) (hiB : spec_l5IsNil.f l2 = some iB) (hsm : spec_l5Same.f k l1 l2 = some sm) (hoa : spec_l5Own.f k l1 = some l1) (hno : spec_l5None.f = some [⟨2, []⟩]) (hlen : l1.length + l2.length < 1099511627776) :
    Calls Try.prog 96 #[.int .i64 3, .slice A1 l1.length c1, .slice A2 l2.length c2] w fun e w' => ∃ v0_ : Value, e = .returned v0_ ∧ Kd.N k49 49 w' B (fun k_ => B ≤ k_) v0_ [⟨2, []⟩] ∧ Below w.heap.size w w' := by
  have hu49 := Try.underlying49
  have hC1 := (Kd.N_reads' h1).2.2
  have hC2 := (Kd.N_reads' h2).2.2
  have hl1 := (Kd.N_reads' h1).2.1
  have hl2 := (Kd.N_reads' h2).2.1
  have HNA := Aside0.mk (fun (W : World) (hb : Below w.heap.size w W) => spec_l5IsNone.calls A1 c1 l1 false W (Kd.C_below hC1 hb) hl1 hnA)
  have HNB := Aside0.mk (fun (W : World) (hb : Below w.heap.size w W) => spec_l5IsNone.calls A2 c2 l2 true W (Kd.C_below hC2 hb) hl2 hnB)
  have HIA := Aside0.mk (fun (W : World) (hb : Below w.heap.size w W) => spec_l5IsNil.calls A1 c1 l1 iA W (Kd.C_below hC1 hb) hl1 hiA)
  have HIB := Aside0.mk (fun (W : World) (hb : Below w.heap.size w W) => spec_l5IsNil.calls A2 c2 l2 iB W (Kd.C_below hC2 hb) hl2 hiB)
  have HSM := Aside0.mk (fun (W : World) (hb : Below w.heap.size w W) => spec_l5Same.calls k A1 c1 l1 A2 c2 l2 sm W (Kd.C_below hC1 hb) hl1 (Kd.C_below hC2 hb) hl2 hsm)
  have HOW := Aside0.mk (fun (W : World) (hb : Below w.heap.size w W) => (spec_l5Own.calls k A1 c1 l1 l1 W (Kd.C_below hC1 hb) hl1 hoa).mono (fun (e : Ending) (w' : World) ⟨v0, he, ho, h⟩ => (⟨v0, he, Kd.N_mono (Kd.N_lower (Kd.S_N (Kd.S_bound ho)) hb.size) (fun k_ hk => Nat.le_trans hb.size hk.2.1), hb.trans (h.mono hb.size)⟩ : ∃ v0 : Value, e = Ending.returned v0 ∧ Kd.N k49 49 w' w.heap.size (fun k_ => w.heap.size ≤ k_) v0 l1 ∧ Below w.heap.size w w')))
  have HNO := Aside0.mk (fun (W : World) (hb : Below w.heap.size w W) => (spec_l5None.calls [(⟨2, []⟩ : S49)] W hno).mono (fun (e : Ending) (w' : World) ⟨v0, he, ho, h⟩ => (⟨v0, he, Kd.N_mono (Kd.N_lower (Kd.S_N (Kd.S_bound ho)) (Nat.le_trans hB hb.size)) (fun k_ hk => Nat.le_trans (Nat.le_trans hB hb.size) hk.2.1), hb.trans (h.mono hb.size)⟩ : ∃ v0 : Value, e = Ending.returned v0 ∧ Kd.N k49 49 w' B (fun k_ => B ≤ k_) v0 [(⟨2, []⟩ : S49)] ∧ Below w.heap.size w w')))
  have H1 := Aside0.mk h1
  have H2 := Aside0.mk h2
  have HB := Aside0.mk hB
  have HLN := Aside0.mk hlen
  clear hC1 hC2 hl1 hl2 h1 h2 hnA hnB hiA hiB hsm hoa hno hB hlen
  go_enter Try.func96, Try.ntmps96
  go_wp2_with (first | (go_at_call 98; (first | (with_reducible refine (HNA.out _ ?side).mono ?_) | (with_reducible refine (HNB.out _ ?side).mono ?_)); (case side => repeat (first | (with_reducible first | exact Below.refl _ _ | apply pw_below_drewN | apply below_drew1 | apply below_alloc))); rintro e w' ⟨rfl, ⟨nd, rfl⟩⟩) | (go_at_call 97; (first | (with_reducible refine (HIA.out _ ?side).mono ?_) | (with_reducible refine (HIB.out _ ?side).mono ?_)); (case side => repeat (first | (with_reducible first | exact Below.refl _ _ | apply pw_below_drewN | apply below_drew1 | apply below_alloc))); rintro e w' ⟨rfl, ⟨nd, rfl⟩⟩) | (go_at_call 115; (first | (with_reducible refine (HSM.out _ ?side).mono ?_)); (case side => repeat (first | (with_reducible first | exact Below.refl _ _ | apply pw_below_drewN | apply below_drew1 | apply below_alloc))); rintro e w' ⟨rfl, ⟨nd, rfl⟩⟩) | (go_at_call 106; with_reducible refine (HNO.out _ ?side).mono ?_; (case side => repeat (first | (with_reducible first | exact Below.refl _ _ | apply pw_below_drewN | apply below_drew1 | apply below_alloc))); rintro e w9 ⟨v9, rfl, ho, hb⟩; have HO9 := Aside0.mk ho; have HB9 := Aside0.mk hb; clear ho hb))
  go_ret
  exact ⟨_, rfl, HO9.out, HB9.out⟩
set_option maxHeartbeats 8000000 in
set_option maxRecDepth 100000 in
theorem two_3_2 (k : Nat) (B : Nat) (iB sm : Bool) (A1 : Option Addr) (c1 : Nat) (l1 : List S49) (A2 : Option Addr) (c2 : Nat) (l2 : List S49) (w : World) (hB : B ≤ w.heap.size) (h1 : Kd.N k49 49 w B (fun k_ => B ≤ k_) (.slice A1 l1.length c1) l1) (h2 : Kd.N k49 49 w B (fun k_ => B ≤ k_) (.slice A2 l2.length c2) l2)
    (hnA : spec_l5IsNone.f l1 = some false) (hnB : spec_l5IsNone.f l2 = some false) (hiA : spec_l5IsNil.f l1 = some true) (hiB : spec_l5IsNil.f l2 = some iB) (hsm : spec_l5Same.f k l1 l2 = some sm) (hoa : spec_l5Own.f k l1 = some l1) (hno : spec_l5None.f = some [⟨2, []⟩]) (hlen : l1.length + l2.length < 1099511627776) :
    Calls Try.prog 96 #[.int .i64 3, .slice A1 l1.length c1, .slice A2 l2.length c2] w fun e w' => ∃ v0_ : Value, e = .returned v0_ ∧ Kd.N k49 49 w' B (fun k_ => B ≤ k_) v0_ l2 ∧ Below w.heap.size w w' := by
  have hu49 := Try.underlying49
  have hC1 := (Kd.N_reads' h1).2.2
  have hC2 := (Kd.N_reads' h2).2.2
  have hl1 := (Kd.N_reads' h1).2.1
  have hl2 := (Kd.N_reads' h2).2.1
  have HNA := Aside0.mk (fun (W : World) (hb : Below w.heap.size w W) => spec_l5IsNone.calls A1 c1 l1 false W (Kd.C_below hC1 hb) hl1 hnA)
  have HNB := Aside0.mk (fun (W : World) (hb : Below w.heap.size w W) => spec_l5IsNone.calls A2 c2 l2 false W (Kd.C_below hC2 hb) hl2 hnB)
  have HIA := Aside0.mk (fun (W : World) (hb : Below w.heap.size w W) => spec_l5IsNil.calls A1 c1 l1 true W (Kd.C_below hC1 hb) hl1 hiA)
  have HIB := Aside0.mk (fun (W : World) (hb : Below w.heap.size w W) => spec_l5IsNil.calls A2 c2 l2 iB W (Kd.C_below hC2 hb) hl2 hiB)
  have HSM := Aside0.mk (fun (W : World) (hb : Below w.heap.size w W) => spec_l5Same.calls k A1 c1 l1 A2 c2 l2 sm W (Kd.C_below hC1 hb) hl1 (Kd.C_below hC2 hb) hl2 hsm)
  have HOW := Aside0.mk (fun (W : World) (hb : Below w.heap.size w W) => (spec_l5Own.calls k A1 c1 l1 l1 W (Kd.C_below hC1 hb) hl1 hoa).mono (fun (e : Ending) (w' : World) ⟨v0, he, ho, h⟩ => (⟨v0, he, Kd.N_mono (Kd.N_lower (Kd.S_N (Kd.S_bound ho)) hb.size) (fun k_ hk => Nat.le_trans hb.size hk.2.1), hb.trans (h.mono hb.size)⟩ : ∃ v0 : Value, e = Ending.returned v0 ∧ Kd.N k49 49 w' w.heap.size (fun k_ => w.heap.size ≤ k_) v0 l1 ∧ Below w.heap.size w w')))
  have HNO := Aside0.mk (fun (W : World) (hb : Below w.heap.size w W) => (spec_l5None.calls [(⟨2, []⟩ : S49)] W hno).mono (fun (e : Ending) (w' : World) ⟨v0, he, ho, h⟩ => (⟨v0, he, Kd.N_mono (Kd.N_lower (Kd.S_N (Kd.S_bound ho)) (Nat.le_trans hB hb.size)) (fun k_ hk => Nat.le_trans (Nat.le_trans hB hb.size) hk.2.1), hb.trans (h.mono hb.size)⟩ : ∃ v0 : Value, e = Ending.returned v0 ∧ Kd.N k49 49 w' B (fun k_ => B ≤ k_) v0 [(⟨2, []⟩ : S49)] ∧ Below w.heap.size w w')))
  have H1 := Aside0.mk h1
  have H2 := Aside0.mk h2
  have HB := Aside0.mk hB
  have HLN := Aside0.mk hlen
  clear hC1 hC2 hl1 hl2 h1 h2 hnA hnB hiA hiB hsm hoa hno hB hlen
  go_enter Try.func96, Try.ntmps96
  go_wp2_with (first | (go_at_call 98; (first | (with_reducible refine (HNA.out _ ?side).mono ?_) | (with_reducible refine (HNB.out _ ?side).mono ?_)); (case side => repeat (first | (with_reducible first | exact Below.refl _ _ | apply pw_below_drewN | apply below_drew1 | apply below_alloc))); rintro e w' ⟨rfl, ⟨nd, rfl⟩⟩) | (go_at_call 97; (first | (with_reducible refine (HIA.out _ ?side).mono ?_) | (with_reducible refine (HIB.out _ ?side).mono ?_)); (case side => repeat (first | (with_reducible first | exact Below.refl _ _ | apply pw_below_drewN | apply below_drew1 | apply below_alloc))); rintro e w' ⟨rfl, ⟨nd, rfl⟩⟩) | (go_at_call 115; (first | (with_reducible refine (HSM.out _ ?side).mono ?_)); (case side => repeat (first | (with_reducible first | exact Below.refl _ _ | apply pw_below_drewN | apply below_drew1 | apply below_alloc))); rintro e w' ⟨rfl, ⟨nd, rfl⟩⟩))
  go_ret
  exact ⟨_, rfl, Kd.N_below H2.out (by repeat (first | (with_reducible first | exact Below.refl _ _ | apply pw_below_drewN | apply below_drew1 | apply below_alloc))), by repeat (first | (with_reducible first | exact Below.refl _ _ | apply pw_below_drewN | apply below_drew1 | apply below_alloc))⟩
set_option maxHeartbeats 8000000 in
set_option maxRecDepth 100000 in
theorem two_3_3 (k : Nat) (B : Nat) (sm : Bool) (A1 : Option Addr) (c1 : Nat) (l1 : List S49) (A2 : Option Addr) (c2 : Nat) (l2 : List S49) (w : World) (hB : B ≤ w.heap.size) (h1 : Kd.N k49 49 w B (fun k_ => B ≤ k_) (.slice A1 l1.length c1) l1) (h2 : Kd.N k49 49 w B (fun k_ => B ≤ k_) (.slice A2 l2.length c2) l2)
    (hnA : spec_l5IsNone.f l1 = some false) (hnB : spec_l5IsNone.f l2 = some false) (hiA : spec_l5IsNil.f l1 = some false) (hiB : spec_l5IsNil.f l2 = some true) (hsm : spec_l5Same.f k l1 l2 = some sm) (hoa : spec_l5Own.f k l1 = some l1) (hno : spec_l5None.f = some [⟨2, []⟩]) (hlen : l1.length + l2.length < 1099511627776) :
    Calls Try.prog 96 #[.int .i64 3, .slice A1 l1.length c1, .slice A2 l2.length c2] w fun e w' => ∃ v0_ : Value, e = .returned v0_ ∧ Kd.N k49 49 w' B (fun k_ => B ≤ k_) v0_ l1 ∧ Below w.heap.size w w' := by
  have hu49 := Try.underlying49
  have hC1 := (Kd.N_reads' h1).2.2
  have hC2 := (Kd.N_reads' h2).2.2
  have hl1 := (Kd.N_reads' h1).2.1
  have hl2 := (Kd.N_reads' h2).2.1
  have HNA := Aside0.mk (fun (W : World) (hb : Below w.heap.size w W) => spec_l5IsNone.calls A1 c1 l1 false W (Kd.C_below hC1 hb) hl1 hnA)
  have HNB := Aside0.mk (fun (W : World) (hb : Below w.heap.size w W) => spec_l5IsNone.calls A2 c2 l2 false W (Kd.C_below hC2 hb) hl2 hnB)
  have HIA := Aside0.mk (fun (W : World) (hb : Below w.heap.size w W) => spec_l5IsNil.calls A1 c1 l1 false W (Kd.C_below hC1 hb) hl1 hiA)
  have HIB := Aside0.mk (fun (W : World) (hb : Below w.heap.size w W) => spec_l5IsNil.calls A2 c2 l2 true W (Kd.C_below hC2 hb) hl2 hiB)
  have HSM := Aside0.mk (fun (W : World) (hb : Below w.heap.size w W) => spec_l5Same.calls k A1 c1 l1 A2 c2 l2 sm W (Kd.C_below hC1 hb) hl1 (Kd.C_below hC2 hb) hl2 hsm)
  have HOW := Aside0.mk (fun (W : World) (hb : Below w.heap.size w W) => (spec_l5Own.calls k A1 c1 l1 l1 W (Kd.C_below hC1 hb) hl1 hoa).mono (fun (e : Ending) (w' : World) ⟨v0, he, ho, h⟩ => (⟨v0, he, Kd.N_mono (Kd.N_lower (Kd.S_N (Kd.S_bound ho)) hb.size) (fun k_ hk => Nat.le_trans hb.size hk.2.1), hb.trans (h.mono hb.size)⟩ : ∃ v0 : Value, e = Ending.returned v0 ∧ Kd.N k49 49 w' w.heap.size (fun k_ => w.heap.size ≤ k_) v0 l1 ∧ Below w.heap.size w w')))
  have HNO := Aside0.mk (fun (W : World) (hb : Below w.heap.size w W) => (spec_l5None.calls [(⟨2, []⟩ : S49)] W hno).mono (fun (e : Ending) (w' : World) ⟨v0, he, ho, h⟩ => (⟨v0, he, Kd.N_mono (Kd.N_lower (Kd.S_N (Kd.S_bound ho)) (Nat.le_trans hB hb.size)) (fun k_ hk => Nat.le_trans (Nat.le_trans hB hb.size) hk.2.1), hb.trans (h.mono hb.size)⟩ : ∃ v0 : Value, e = Ending.returned v0 ∧ Kd.N k49 49 w' B (fun k_ => B ≤ k_) v0 [(⟨2, []⟩ : S49)] ∧ Below w.heap.size w w')))
  have H1 := Aside0.mk h1
  have H2 := Aside0.mk h2
  have HB := Aside0.mk hB
  have HLN := Aside0.mk hlen
  clear hC1 hC2 hl1 hl2 h1 h2 hnA hnB hiA hiB hsm hoa hno hB hlen
  go_enter Try.func96, Try.ntmps96
  go_wp2_with (first | (go_at_call 98; (first | (with_reducible refine (HNA.out _ ?side).mono ?_) | (with_reducible refine (HNB.out _ ?side).mono ?_)); (case side => repeat (first | (with_reducible first | exact Below.refl _ _ | apply pw_below_drewN | apply below_drew1 | apply below_alloc))); rintro e w' ⟨rfl, ⟨nd, rfl⟩⟩) | (go_at_call 97; (first | (with_reducible refine (HIA.out _ ?side).mono ?_) | (with_reducible refine (HIB.out _ ?side).mono ?_)); (case side => repeat (first | (with_reducible first | exact Below.refl _ _ | apply pw_below_drewN | apply below_drew1 | apply below_alloc))); rintro e w' ⟨rfl, ⟨nd, rfl⟩⟩) | (go_at_call 115; (first | (with_reducible refine (HSM.out _ ?side).mono ?_)); (case side => repeat (first | (with_reducible first | exact Below.refl _ _ | apply pw_below_drewN | apply below_drew1 | apply below_alloc))); rintro e w' ⟨rfl, ⟨nd, rfl⟩⟩))
  go_ret
  exact ⟨_, rfl, Kd.N_below H1.out (by repeat (first | (with_reducible first | exact Below.refl _ _ | apply pw_below_drewN | apply below_drew1 | apply below_alloc))), by repeat (first | (with_reducible first | exact Below.refl _ _ | apply pw_below_drewN | apply below_drew1 | apply below_alloc))⟩
set_option maxHeartbeats 8000000 in
set_option maxRecDepth 100000 in
theorem two_3_4 (k : Nat) (B : Nat) (sm : Bool) (A1 : Option Addr) (c1 : Nat) (l1 : List S49) (A2 : Option Addr) (c2 : Nat) (l2 : List S49) (w : World) (hB : B ≤ w.heap.size) (h1 : Kd.N k49 49 w B (fun k_ => B ≤ k_) (.slice A1 l1.length c1) l1) (h2 : Kd.N k49 49 w B (fun k_ => B ≤ k_) (.slice A2 l2.length c2) l2)
    (hnA : spec_l5IsNone.f l1 = some false) (hnB : spec_l5IsNone.f l2 = some false) (hiA : spec_l5IsNil.f l1 = some false) (hiB : spec_l5IsNil.f l2 = some false) (hsm : spec_l5Same.f k l1 l2 = some sm) (hoa : spec_l5Own.f k l1 = some l1) (hno : spec_l5None.f = some [⟨2, []⟩]) (hlen : l1.length + l2.length < 1099511627776) :
    Calls Try.prog 96 #[.int .i64 3, .slice A1 l1.length c1, .slice A2 l2.length c2] w fun e w' => ∃ v0_ : Value, e = .returned v0_ ∧ Kd.N k49 49 w' B (fun k_ => B ≤ k_) v0_ (l1 ++ l2 ++ [⟨3, []⟩]) ∧ Below w.heap.size w w' := by
  have hu49 := Try.underlying49
  have hC1 := (Kd.N_reads' h1).2.2
  have hC2 := (Kd.N_reads' h2).2.2
  have hl1 := (Kd.N_reads' h1).2.1
  have hl2 := (Kd.N_reads' h2).2.1
  have HNA := Aside0.mk (fun (W : World) (hb : Below w.heap.size w W) => spec_l5IsNone.calls A1 c1 l1 false W (Kd.C_below hC1 hb) hl1 hnA)
  have HNB := Aside0.mk (fun (W : World) (hb : Below w.heap.size w W) => spec_l5IsNone.calls A2 c2 l2 false W (Kd.C_below hC2 hb) hl2 hnB)
  have HIA := Aside0.mk (fun (W : World) (hb : Below w.heap.size w W) => spec_l5IsNil.calls A1 c1 l1 false W (Kd.C_below hC1 hb) hl1 hiA)
  have HIB := Aside0.mk (fun (W : World) (hb : Below w.heap.size w W) => spec_l5IsNil.calls A2 c2 l2 false W (Kd.C_below hC2 hb) hl2 hiB)
  have HSM := Aside0.mk (fun (W : World) (hb : Below w.heap.size w W) => spec_l5Same.calls k A1 c1 l1 A2 c2 l2 sm W (Kd.C_below hC1 hb) hl1 (Kd.C_below hC2 hb) hl2 hsm)
  have HOW := Aside0.mk (fun (W : World) (hb : Below w.heap.size w W) => (spec_l5Own.calls k A1 c1 l1 l1 W (Kd.C_below hC1 hb) hl1 hoa).mono (fun (e : Ending) (w' : World) ⟨v0, he, ho, h⟩ => (⟨v0, he, Kd.N_mono (Kd.N_lower (Kd.S_N (Kd.S_bound ho)) hb.size) (fun k_ hk => Nat.le_trans hb.size hk.2.1), hb.trans (h.mono hb.size)⟩ : ∃ v0 : Value, e = Ending.returned v0 ∧ Kd.N k49 49 w' w.heap.size (fun k_ => w.heap.size ≤ k_) v0 l1 ∧ Below w.heap.size w w')))
  have HNO := Aside0.mk (fun (W : World) (hb : Below w.heap.size w W) => (spec_l5None.calls [(⟨2, []⟩ : S49)] W hno).mono (fun (e : Ending) (w' : World) ⟨v0, he, ho, h⟩ => (⟨v0, he, Kd.N_mono (Kd.N_lower (Kd.S_N (Kd.S_bound ho)) (Nat.le_trans hB hb.size)) (fun k_ hk => Nat.le_trans (Nat.le_trans hB hb.size) hk.2.1), hb.trans (h.mono hb.size)⟩ : ∃ v0 : Value, e = Ending.returned v0 ∧ Kd.N k49 49 w' B (fun k_ => B ≤ k_) v0 [(⟨2, []⟩ : S49)] ∧ Below w.heap.size w w')))
  have H1 := Aside0.mk h1
  have H2 := Aside0.mk h2
  have HB := Aside0.mk hB
  have HLN := Aside0.mk hlen
  clear hC1 hC2 hl1 hl2 h1 h2 hnA hnB hiA hiB hsm hoa hno hB hlen
  go_enter Try.func96, Try.ntmps96
  go_wp2_with (first | (go_at_call 98; (first | (with_reducible refine (HNA.out _ ?side).mono ?_) | (with_reducible refine (HNB.out _ ?side).mono ?_)); (case side => repeat (first | (with_reducible first | exact Below.refl _ _ | apply pw_below_drewN | apply below_drew1 | apply below_alloc))); rintro e w' ⟨rfl, ⟨nd, rfl⟩⟩) | (go_at_call 97; (first | (with_reducible refine (HIA.out _ ?side).mono ?_) | (with_reducible refine (HIB.out _ ?side).mono ?_)); (case side => repeat (first | (with_reducible first | exact Below.refl _ _ | apply pw_below_drewN | apply below_drew1 | apply below_alloc))); rintro e w' ⟨rfl, ⟨nd, rfl⟩⟩) | (go_at_call 115; (first | (with_reducible refine (HSM.out _ ?side).mono ?_)); (case side => repeat (first | (with_reducible first | exact Below.refl _ _ | apply pw_below_drewN | apply below_drew1 | apply below_alloc))); rintro e w' ⟨rfl, ⟨nd, rfl⟩⟩) | (go_at_call 65; with_reducible refine (HOW.out _ ?side).mono ?_; (case side => repeat (first | (with_reducible first | exact Below.refl _ _ | apply pw_below_drewN | apply below_drew1 | apply below_alloc))); rintro e w9 ⟨v9, rfl, ho, hb⟩; have HO9 := Aside0.mk ho; have HB9 := Aside0.mk hb; clear ho hb) | ((with_reducible refine gate_builtin (b := .append) (xs := #[.tmp 62, .tmp 63]) rfl ?_); at_builtin; refine Kd.N_append_rows k49 (w0 := w) w.heap.size rfl (.tmp 62) (.tmp 63) 25 49 (.agg #[(.int .i64 0), (.slice none 0 0)]) 32 rfl Try.underlying25 info49 rfl (by decide) (by decide) v9 l1 l2 _ _ _ (fun k_ => B ≤ k_) (fun k_ => B ≤ k_ ∧ k_ < w.heap.size) rfl rfl (Kd.N_mono HO9.out (fun k_ hk => Nat.le_trans HB.out hk)) (Kd.F_below (Kd.N_F (Kd.N_bound H2.out)) HB9.out) (fun k_ hk => ⟨hk.1, fun e => Nat.not_le.2 hk.2 (Kd.N_base HO9.out k_ e.symm)⟩) (fun k_ hk => Nat.le_trans HB.out (Nat.le_trans HB9.out.size hk)) HB9.out HB9.out.size (by have := HLN.out; omega) ?_; intro v10 w10 ho hb hg hat; clear hg hat; have HO10 := Aside0.mk ho; have HB10 := Aside0.mk hb; clear ho hb) | ((with_reducible refine gate_dst (N := 67) rfl ?_); refine Kd.N_lit k49 _ 49 ?hg (N' := 67) ?hd (xs := ([(⟨3, []⟩ : S49)])) (inner := [.int .i64 3, .slice none 0 0]) (ok := (fun k_ => w10.heap.size ≤ k_)) (okp := (fun k_ => w10.heap.size ≤ k_)) ?hr ?hp (fun _ hk => hk) (Nat.le_refl _) (Below.refl _ _) (Nat.le_refl _) (by simp) ?_; (case hd => rfl); (case hg => rfl); (case hr => first | (go_simp; done) | (go_simp; rfl)); (case hp => exact (Reps.c2 (show Kd.FK k49 _ _ (⟨3, ([] : List Int)⟩ : S49) [.int .i64 3, .slice none 0 0] from (k49_mkF _ _ (⟨3, ([] : List Int)⟩ : S49) (Nat.le_refl _) (Kd.F_nil _ _ _))) (Reps.none _ _))); intro v11 w11 ho hb hg_ hnew_; clear hg_ hnew_; have HO11 := Aside0.mk ho; have HB11 := Aside0.mk hb; clear ho hb; obtain ⟨A11, c11, eo11⟩ := Kd.N_slice HO11.out; subst eo11) | ((with_reducible refine gate_builtin (b := .append) (xs := #[.tmp 64, .tmp 67]) rfl ?_); at_builtin; refine Kd.N_append_rows k49 (w0 := w) w.heap.size rfl (.tmp 64) (.tmp 67) 25 49 (.agg #[(.int .i64 0), (.slice none 0 0)]) 32 rfl Try.underlying25 info49 rfl (by decide) (by decide) v10 (l1 ++ l2) [(⟨3, []⟩ : S49)] _ _ _ (fun k_ => B ≤ k_) (fun k_ => w10.heap.size ≤ k_) rfl rfl (Kd.N_below HO10.out HB11.out) (Kd.N_F HO11.out) (fun k_ hk => ⟨Nat.le_trans HB.out (Nat.le_trans HB10.out.size hk), fun e => Nat.not_lt.2 hk (Kd.N_lt HO10.out k_ e.symm)⟩) (fun k_ hk => Nat.le_trans HB.out (Nat.le_trans HB10.out.size (Nat.le_trans HB11.out.size hk))) (HB10.out.trans (HB11.out.mono HB10.out.size)) (Nat.le_trans HB10.out.size HB11.out.size) (by have := HLN.out; simp only [List.length_append, List.length_singleton]; omega) ?_; intro v12 w12 ho hb hg hat; clear hg hat; have HO12 := Aside0.mk ho; have HB12 := Aside0.mk hb; clear ho hb))
  go_ret
  exact ⟨_, rfl, Kd.N_lower HO12.out HB.out, HB12.out⟩
set_option maxHeartbeats 8000000 in
set_option maxRecDepth 100000 in
theorem two_4_0 (k : Nat) (B : Nat) (nB iA iB sm : Bool) (A1 : Option Addr) (c1 : Nat) (l1 : List S49) (A2 : Option Addr) (c2 : Nat) (l2 : List S49) (w : World) (hB : B ≤ w.heap.size) (h1 : Kd.N k49 49 w B (fun k_ => B ≤ k_) (.slice A1 l1.length c1) l1) (h2 : Kd.N k49 49 w B (fun k_ => B ≤ k_) (.slice A2 l2.length c2) l2)
    (hnA : spec_l5IsNone.f l1 = some true) (hnB : spec_l5IsNone.f l2 = some nB) (hiA : spec_l5IsNil.f l1 = some iA) (hiB : spec_l5IsNil.f l2 = some iB) (hsm : spec_l5Same.f k l1 l2 = some sm) (hoa : spec_l5Own.f k l1 = some l1) (hno : spec_l5None.f = some [⟨2, []⟩]) (hlen : l1.length + l2.length < 1099511627776) :
    Calls Try.prog 96 #[.int .i64 4, .slice A1 l1.length c1, .slice A2 l2.length c2] w fun e w' => ∃ v0_ : Value, e = .returned v0_ ∧ Kd.N k49 49 w' B (fun k_ => B ≤ k_) v0_ l2 ∧ Below w.heap.size w w' := by
  have hu49 := Try.underlying49
  have hC1 := (Kd.N_reads' h1).2.2
  have hC2 := (Kd.N_reads' h2).2.2
  have hl1 := (Kd.N_reads' h1).2.1
  have hl2 := (Kd.N_reads' h2).2.1
  have HNA := Aside0.mk (fun (W : World) (hb : Below w.heap.size w W) => spec_l5IsNone.calls A1 c1 l1 true W (Kd.C_below hC1 hb) hl1 hnA)
  have HNB := Aside0.mk (fun (W : World) (hb : Below w.heap.size w W) => spec_l5IsNone.calls A2 c2 l2 nB W (Kd.C_below hC2 hb) hl2 hnB)
  have HIA := Aside0.mk (fun (W : World) (hb : Below w.heap.size w W) => spec_l5IsNil.calls A1 c1 l1 iA W (Kd.C_below hC1 hb) hl1 hiA)
  have HIB := Aside0.mk (fun (W : World) (hb : Below w.heap.size w W) => spec_l5IsNil.calls A2 c2 l2 iB W (Kd.C_below hC2 hb) hl2 hiB)
  have HSM := Aside0.mk (fun (W : World) (hb : Below w.heap.size w W) => spec_l5Same.calls k A1 c1 l1 A2 c2 l2 sm W (Kd.C_below hC1 hb) hl1 (Kd.C_below hC2 hb) hl2 hsm)
  have HOW := Aside0.mk (fun (W : World) (hb : Below w.heap.size w W) => (spec_l5Own.calls k A1 c1 l1 l1 W (Kd.C_below hC1 hb) hl1 hoa).mono (fun (e : Ending) (w' : World) ⟨v0, he, ho, h⟩ => (⟨v0, he, Kd.N_mono (Kd.N_lower (Kd.S_N (Kd.S_bound ho)) hb.size) (fun k_ hk => Nat.le_trans hb.size hk.2.1), hb.trans (h.mono hb.size)⟩ : ∃ v0 : Value, e = Ending.returned v0 ∧ Kd.N k49 49 w' w.heap.size (fun k_ => w.heap.size ≤ k_) v0 l1 ∧ Below w.heap.size w w')))
  have HNO := Aside0.mk (fun (W : World) (hb : Below w.heap.size w W) => (spec_l5None.calls [(⟨2, []⟩ : S49)] W hno).mono (fun (e : Ending) (w' : World) ⟨v0, he, ho, h⟩ => (⟨v0, he, Kd.N_mono (Kd.N_lower (Kd.S_N (Kd.S_bound ho)) (Nat.le_trans hB hb.size)) (fun k_ hk => Nat.le_trans (Nat.le_trans hB hb.size) hk.2.1), hb.trans (h.mono hb.size)⟩ : ∃ v0 : Value, e = Ending.returned v0 ∧ Kd.N k49 49 w' B (fun k_ => B ≤ k_) v0 [(⟨2, []⟩ : S49)] ∧ Below w.heap.size w w')))
  have H1 := Aside0.mk h1
  have H2 := Aside0.mk h2
  have HB := Aside0.mk hB
  have HLN := Aside0.mk hlen
  clear hC1 hC2 hl1 hl2 h1 h2 hnA hnB hiA hiB hsm hoa hno hB hlen
  go_enter Try.func96, Try.ntmps96
  go_wp2_with (first | (go_at_call 98; (first | (with_reducible refine (HNA.out _ ?side).mono ?_) | (with_reducible refine (HNB.out _ ?side).mono ?_)); (case side => repeat (first | (with_reducible first | exact Below.refl _ _ | apply pw_below_drewN | apply below_drew1 | apply below_alloc))); rintro e w' ⟨rfl, ⟨nd, rfl⟩⟩) | (go_at_call 97; (first | (with_reducible refine (HIA.out _ ?side).mono ?_) | (with_reducible refine (HIB.out _ ?side).mono ?_)); (case side => repeat (first | (with_reducible first | exact Below.refl _ _ | apply pw_below_drewN | apply below_drew1 | apply below_alloc))); rintro e w' ⟨rfl, ⟨nd, rfl⟩⟩) | (go_at_call 115; (first | (with_reducible refine (HSM.out _ ?side).mono ?_)); (case side => repeat (first | (with_reducible first | exact Below.refl _ _ | apply pw_below_drewN | apply below_drew1 | apply below_alloc))); rintro e w' ⟨rfl, ⟨nd, rfl⟩⟩))
  go_ret
  exact ⟨_, rfl, Kd.N_below H2.out (by repeat (first | (with_reducible first | exact Below.refl _ _ | apply pw_below_drewN | apply below_drew1 | apply below_alloc))), by repeat (first | (with_reducible first | exact Below.refl _ _ | apply pw_below_drewN | apply below_drew1 | apply below_alloc))⟩
set_option maxHeartbeats 8000000 in
set_option maxRecDepth 100000 in
theorem two_4_1 (k : Nat) (B : Nat) (iA iB sm : Bool) (A1 : Option Addr) (c1 : Nat) (l1 : List S49) (A2 : Option Addr) (c2 : Nat) (l2 : List S49) (w : World) (hB : B ≤ w.heap.size) (h1 : Kd.N k49 49 w B (fun k_ => B ≤ k_) (.slice A1 l1.length c1) l1) (h2 : Kd.N k49 49 w B (fun k_ => B ≤ k_) (.slice A2 l2.length c2) l2)
    (hnA : spec_l5IsNone.f l1 = some false) (hnB : spec_l5IsNone.f l2 = some true) (hiA : spec_l5IsNil.f l1 = some iA) (hiB : spec_l5IsNil.f l2 = some iB) (hsm : spec_l5Same.f k l1 l2 = some sm) (hoa : spec_l5Own.f k l1 = some l1) (hno : spec_l5None.f = some [⟨2, []⟩]) (hlen : l1.length + l2.length < 1099511627776) :
    Calls Try.prog 96 #[.int .i64 4, .slice A1 l1.length c1, .slice A2 l2.length c2] w fun e w' => ∃ v0_ : Value, e = .returned v0_ ∧ Kd.N k49 49 w' B (fun k_ => B ≤ k_) v0_ l1 ∧ Below w.heap.size w w' := by
  have hu49 := Try.underlying49
  have hC1 := (Kd.N_reads' h1).2.2
  have hC2 := (Kd.N_reads' h2).2.2
  have hl1 := (Kd.N_reads' h1).2.1
  have hl2 := (Kd.N_reads' h2).2.1
  have HNA := Aside0.mk (fun (W : World) (hb : Below w.heap.size w W) => spec_l5IsNone.calls A1 c1 l1 false W (Kd.C_below hC1 hb) hl1 hnA)
  have HNB := Aside0.mk (fun (W : World) (hb : Below w.heap.size w W) => spec_l5IsNone.calls A2 c2 l2 true W (Kd.C_below hC2 hb) hl2 hnB)
  have HIA := Aside0.mk (fun (W : World) (hb : Below w.heap.size w W) => spec_l5IsNil.calls A1 c1 l1 iA W (Kd.C_below hC1 hb) hl1 hiA)
  have HIB := Aside0.mk (fun (W : World) (hb : Below w.heap.size w W) => spec_l5IsNil.calls A2 c2 l2 iB W (Kd.C_below hC2 hb) hl2 hiB)
  have HSM := Aside0.mk (fun (W : World) (hb : Below w.heap.size w W) => spec_l5Same.calls k A1 c1 l1 A2 c2 l2 sm W (Kd.C_below hC1 hb) hl1 (Kd.C_below hC2 hb) hl2 hsm)
  have HOW := Aside0.mk (fun (W : World) (hb : Below w.heap.size w W) => (spec_l5Own.calls k A1 c1 l1 l1 W (Kd.C_below hC1 hb) hl1 hoa).mono (fun (e : Ending) (w' : World) ⟨v0, he, ho, h⟩ => (⟨v0, he, Kd.N_mono (Kd.N_lower (Kd.S_N (Kd.S_bound ho)) hb.size) (fun k_ hk => Nat.le_trans hb.size hk.2.1), hb.trans (h.mono hb.size)⟩ : ∃ v0 : Value, e = Ending.returned v0 ∧ Kd.N k49 49 w' w.heap.size (fun k_ => w.heap.size ≤ k_) v0 l1 ∧ Below w.heap.size w w')))
  have HNO := Aside0.mk (fun (W : World) (hb : Below w.heap.size w W) => (spec_l5None.calls [(⟨2, []⟩ : S49)] W hno).mono (fun (e : Ending) (w' : World) ⟨v0, he, ho, h⟩ => (⟨v0, he, Kd.N_mono (Kd.N_lower (Kd.S_N (Kd.S_bound ho)) (Nat.le_trans hB hb.size)) (fun k_ hk => Nat.le_trans (Nat.le_trans hB hb.size) hk.2.1), hb.trans (h.mono hb.size)⟩ : ∃ v0 : Value, e = Ending.returned v0 ∧ Kd.N k49 49 w' B (fun k_ => B ≤ k_) v0 [(⟨2, []⟩ : S49)] ∧ Below w.heap.size w w')))
  have H1 := Aside0.mk h1
  have H2 := Aside0.mk h2
  have HB := Aside0.mk hB
  have HLN := Aside0.mk hlen
  clear hC1 hC2 hl1 hl2 h1 h2 hnA hnB hiA hiB hsm hoa hno hB hlen
  go_enter Try.func96, Try.ntmps96
  go_wp2_with (first | (go_at_call 98; (first | (with_reducible refine (HNA.out _ ?side).mono ?_) | (with_reducible refine (HNB.out _ ?side).mono ?_)); (case side => repeat (first | (with_reducible first | exact Below.refl _ _ | apply pw_below_drewN | apply below_drew1 | apply below_alloc))); rintro e w' ⟨rfl, ⟨nd, rfl⟩⟩) | (go_at_call 97; (first | (with_reducible refine (HIA.out _ ?side).mono ?_) | (with_reducible refine (HIB.out _ ?side).mono ?_)); (case side => repeat (first | (with_reducible first | exact Below.refl _ _ | apply pw_below_drewN | apply below_drew1 | apply below_alloc))); rintro e w' ⟨rfl, ⟨nd, rfl⟩⟩) | (go_at_call 115; (first | (with_reducible refine (HSM.out _ ?side).mono ?_)); (case side => repeat (first | (with_reducible first | exact Below.refl _ _ | apply pw_below_drewN | apply below_drew1 | apply below_alloc))); rintro e w' ⟨rfl, ⟨nd, rfl⟩⟩))
  go_ret
  exact ⟨_, rfl, Kd.N_below H1.out (by repeat (first | (with_reducible first | exact Below.refl _ _ | apply pw_below_drewN | apply below_drew1 | apply below_alloc))), by repeat (first | (with_reducible first | exact Below.refl _ _ | apply pw_below_drewN | apply below_drew1 | apply below_alloc))⟩
set_option maxHeartbeats 8000000 in
set_option maxRecDepth 100000 in
theorem two_4_2 (k : Nat) (B : Nat) (iA iB : Bool) (A1 : Option Addr) (c1 : Nat) (l1 : List S49) (A2 : Option Addr) (c2 : Nat) (l2 : List S49) (w : World) (hB : B ≤ w.heap.size) (h1 : Kd.N k49 49 w B (fun k_ => B ≤ k_) (.slice A1 l1.length c1) l1) (h2 : Kd.N k49 49 w B (fun k_ => B ≤ k_) (.slice A2 l2.length c2) l2)
    (hnA : spec_l5IsNone.f l1 = some false) (hnB : spec_l5IsNone.f l2 = some false) (hiA : spec_l5IsNil.f l1 = some iA) (hiB : spec_l5IsNil.f l2 = some iB) (hsm : spec_l5Same.f k l1 l2 = some true) (hoa : spec_l5Own.f k l1 = some l1) (hno : spec_l5None.f = some [⟨2, []⟩]) (hlen : l1.length + l2.length < 1099511627776) :
    Calls Try.prog 96 #[.int .i64 4, .slice A1 l1.length c1, .slice A2 l2.length c2] w fun e w' => ∃ v0_ : Value, e = .returned v0_ ∧ Kd.N k49 49 w' B (fun k_ => B ≤ k_) v0_ l1 ∧ Below w.heap.size w w' := by
  have hu49 := Try.underlying49
  have hC1 := (Kd.N_reads' h1).2.2
  have hC2 := (Kd.N_reads' h2).2.2
  have hl1 := (Kd.N_reads' h1).2.1
  have hl2 := (Kd.N_reads' h2).2.1
  have HNA := Aside0.mk (fun (W : World) (hb : Below w.heap.size w W) => spec_l5IsNone.calls A1 c1 l1 false W (Kd.C_below hC1 hb) hl1 hnA)
  have HNB := Aside0.mk (fun (W : World) (hb : Below w.heap.size w W) => spec_l5IsNone.calls A2 c2 l2 false W (Kd.C_below hC2 hb) hl2 hnB)
  have HIA := Aside0.mk (fun (W : World) (hb : Below w.heap.size w W) => spec_l5IsNil.calls A1 c1 l1 iA W (Kd.C_below hC1 hb) hl1 hiA)
  have HIB := Aside0.mk (fun (W : World) (hb : Below w.heap.size w W) => spec_l5IsNil.calls A2 c2 l2 iB W (Kd.C_below hC2 hb) hl2 hiB)
  have HSM := Aside0.mk (fun (W : World) (hb : Below w.heap.size w W) => spec_l5Same.calls k A1 c1 l1 A2 c2 l2 true W (Kd.C_below hC1 hb) hl1 (Kd.C_below hC2 hb) hl2 hsm)
  have HOW := Aside0.mk (fun (W : World) (hb : Below w.heap.size w W) => (spec_l5Own.calls k A1 c1 l1 l1 W (Kd.C_below hC1 hb) hl1 hoa).mono (fun (e : Ending) (w' : World) ⟨v0, he, ho, h⟩ => (⟨v0, he, Kd.N_mono (Kd.N_lower (Kd.S_N (Kd.S_bound ho)) hb.size) (fun k_ hk => Nat.le_trans hb.size hk.2.1), hb.trans (h.mono hb.size)⟩ : ∃ v0 : Value, e = Ending.returned v0 ∧ Kd.N k49 49 w' w.heap.size (fun k_ => w.heap.size ≤ k_) v0 l1 ∧ Below w.heap.size w w')))
  have HNO := Aside0.mk (fun (W : World) (hb : Below w.heap.size w W) => (spec_l5None.calls [(⟨2, []⟩ : S49)] W hno).mono (fun (e : Ending) (w' : World) ⟨v0, he, ho, h⟩ => (⟨v0, he, Kd.N_mono (Kd.N_lower (Kd.S_N (Kd.S_bound ho)) (Nat.le_trans hB hb.size)) (fun k_ hk => Nat.le_trans (Nat.le_trans hB hb.size) hk.2.1), hb.trans (h.mono hb.size)⟩ : ∃ v0 : Value, e = Ending.returned v0 ∧ Kd.N k49 49 w' B (fun k_ => B ≤ k_) v0 [(⟨2, []⟩ : S49)] ∧ Below w.heap.size w w')))
  have H1 := Aside0.mk h1
  have H2 := Aside0.mk h2
  have HB := Aside0.mk hB
  have HLN := Aside0.mk hlen
  clear hC1 hC2 hl1 hl2 h1 h2 hnA hnB hiA hiB hsm hoa hno hB hlen
  go_enter Try.func96, Try.ntmps96
  go_wp2_with (first | (go_at_call 98; (first | (with_reducible refine (HNA.out _ ?side).mono ?_) | (with_reducible refine (HNB.out _ ?side).mono ?_)); (case side => repeat (first | (with_reducible first | exact Below.refl _ _ | apply pw_below_drewN | apply below_drew1 | apply below_alloc))); rintro e w' ⟨rfl, ⟨nd, rfl⟩⟩) | (go_at_call 97; (first | (with_reducible refine (HIA.out _ ?side).mono ?_) | (with_reducible refine (HIB.out _ ?side).mono ?_)); (case side => repeat (first | (with_reducible first | exact Below.refl _ _ | apply pw_below_drewN | apply below_drew1 | apply below_alloc))); rintro e w' ⟨rfl, ⟨nd, rfl⟩⟩) | (go_at_call 115; (first | (with_reducible refine (HSM.out _ ?side).mono ?_)); (case side => repeat (first | (with_reducible first | exact Below.refl _ _ | apply pw_below_drewN | apply below_drew1 | apply below_alloc))); rintro e w' ⟨rfl, ⟨nd, rfl⟩⟩))
  go_ret
  exact ⟨_, rfl, Kd.N_below H1.out (by repeat (first | (with_reducible first | exact Below.refl _ _ | apply pw_below_drewN | apply below_drew1 | apply below_alloc))), by repeat (first | (with_reducible first | exact Below.refl _ _ | apply pw_below_drewN | apply below_drew1 | apply below_alloc))⟩
set_option maxHeartbeats 8000000 in
set_option maxRecDepth 100000 in
theorem two_4_3 (k : Nat) (B : Nat) (iA iB : Bool) (A1 : Option Addr) (c1 : Nat) (l1 : List S49) (A2 : Option Addr) (c2 : Nat) (l2 : List S49) (w : World) (hB : B ≤ w.heap.size) (h1 : Kd.N k49 49 w B (fun k_ => B ≤ k_) (.slice A1 l1.length c1) l1) (h2 : Kd.N k49 49 w B (fun k_ => B ≤ k_) (.slice A2 l2.length c2) l2)
    (hnA : spec_l5IsNone.f l1 = some false) (hnB : spec_l5IsNone.f l2 = some false) (hiA : spec_l5IsNil.f l1 = some iA) (hiB : spec_l5IsNil.f l2 = some iB) (hsm : spec_l5Same.f k l1 l2 = some false) (hoa : spec_l5Own.f k l1 = some l1) (hno : spec_l5None.f = some [⟨2, []⟩]) (hlen : l1.length + l2.length < 1099511627776) :
    Calls Try.prog 96 #[.int .i64 4, .slice A1 l1.length c1, .slice A2 l2.length c2] w fun e w' => ∃ v0_ : Value, e = .returned v0_ ∧ Kd.N k49 49 w' B (fun k_ => B ≤ k_) v0_ (l1 ++ l2 ++ [⟨4, []⟩]) ∧ Below w.heap.size w w' := by
  have hu49 := Try.underlying49
  have hC1 := (Kd.N_reads' h1).2.2
  have hC2 := (Kd.N_reads' h2).2.2
  have hl1 := (Kd.N_reads' h1).2.1
  have hl2 := (Kd.N_reads' h2).2.1
  have HNA := Aside0.mk (fun (W : World) (hb : Below w.heap.size w W) => spec_l5IsNone.calls A1 c1 l1 false W (Kd.C_below hC1 hb) hl1 hnA)
  have HNB := Aside0.mk (fun (W : World) (hb : Below w.heap.size w W) => spec_l5IsNone.calls A2 c2 l2 false W (Kd.C_below hC2 hb) hl2 hnB)
  have HIA := Aside0.mk (fun (W : World) (hb : Below w.heap.size w W) => spec_l5IsNil.calls A1 c1 l1 iA W (Kd.C_below hC1 hb) hl1 hiA)
  have HIB := Aside0.mk (fun (W : World) (hb : Below w.heap.size w W) => spec_l5IsNil.calls A2 c2 l2 iB W (Kd.C_below hC2 hb) hl2 hiB)
  have HSM := Aside0.mk (fun (W : World) (hb : Below w.heap.size w W) => spec_l5Same.calls k A1 c1 l1 A2 c2 l2 false W (Kd.C_below hC1 hb) hl1 (Kd.C_below hC2 hb) hl2 hsm)
  have HOW := Aside0.mk (fun (W : World) (hb : Below w.heap.size w W) => (spec_l5Own.calls k A1 c1 l1 l1 W (Kd.C_below hC1 hb) hl1 hoa).mono (fun (e : Ending) (w' : World) ⟨v0, he, ho, h⟩ => (⟨v0, he, Kd.N_mono (Kd.N_lower (Kd.S_N (Kd.S_bound ho)) hb.size) (fun k_ hk => Nat.le_trans hb.size hk.2.1), hb.trans (h.mono hb.size)⟩ : ∃ v0 : Value, e = Ending.returned v0 ∧ Kd.N k49 49 w' w.heap.size (fun k_ => w.heap.size ≤ k_) v0 l1 ∧ Below w.heap.size w w')))
  have HNO := Aside0.mk (fun (W : World) (hb : Below w.heap.size w W) => (spec_l5None.calls [(⟨2, []⟩ : S49)] W hno).mono (fun (e : Ending) (w' : World) ⟨v0, he, ho, h⟩ => (⟨v0, he, Kd.N_mono (Kd.N_lower (Kd.S_N (Kd.S_bound ho)) (Nat.le_trans hB hb.size)) (fun k_ hk => Nat.le_trans (Nat.le_trans hB hb.size) hk.2.1), hb.trans (h.mono hb.size)⟩ : ∃ v0 : Value, e = Ending.returned v0 ∧ Kd.N k49 49 w' B (fun k_ => B ≤ k_) v0 [(⟨2, []⟩ : S49)] ∧ Below w.heap.size w w')))
  have H1 := Aside0.mk h1
  have H2 := Aside0.mk h2
  have HB := Aside0.mk hB
  have HLN := Aside0.mk hlen
  clear hC1 hC2 hl1 hl2 h1 h2 hnA hnB hiA hiB hsm hoa hno hB hlen
  go_enter Try.func96, Try.ntmps96
  go_wp2_with (first | (go_at_call 98; (first | (with_reducible refine (HNA.out _ ?side).mono ?_) | (with_reducible refine (HNB.out _ ?side).mono ?_)); (case side => repeat (first | (with_reducible first | exact Below.refl _ _ | apply pw_below_drewN | apply below_drew1 | apply below_alloc))); rintro e w' ⟨rfl, ⟨nd, rfl⟩⟩) | (go_at_call 97; (first | (with_reducible refine (HIA.out _ ?side).mono ?_) | (with_reducible refine (HIB.out _ ?side).mono ?_)); (case side => repeat (first | (with_reducible first | exact Below.refl _ _ | apply pw_below_drewN | apply below_drew1 | apply below_alloc))); rintro e w' ⟨rfl, ⟨nd, rfl⟩⟩) | (go_at_call 115; (first | (with_reducible refine (HSM.out _ ?side).mono ?_)); (case side => repeat (first | (with_reducible first | exact Below.refl _ _ | apply pw_below_drewN | apply below_drew1 | apply below_alloc))); rintro e w' ⟨rfl, ⟨nd, rfl⟩⟩) | (go_at_call 65; with_reducible refine (HOW.out _ ?side).mono ?_; (case side => repeat (first | (with_reducible first | exact Below.refl _ _ | apply pw_below_drewN | apply below_drew1 | apply below_alloc))); rintro e w9 ⟨v9, rfl, ho, hb⟩; have HO9 := Aside0.mk ho; have HB9 := Aside0.mk hb; clear ho hb) | ((with_reducible refine gate_builtin (b := .append) (xs := #[.tmp 62, .tmp 63]) rfl ?_); at_builtin; refine Kd.N_append_rows k49 (w0 := w) w.heap.size rfl (.tmp 62) (.tmp 63) 25 49 (.agg #[(.int .i64 0), (.slice none 0 0)]) 32 rfl Try.underlying25 info49 rfl (by decide) (by decide) v9 l1 l2 _ _ _ (fun k_ => B ≤ k_) (fun k_ => B ≤ k_ ∧ k_ < w.heap.size) rfl rfl (Kd.N_mono HO9.out (fun k_ hk => Nat.le_trans HB.out hk)) (Kd.F_below (Kd.N_F (Kd.N_bound H2.out)) HB9.out) (fun k_ hk => ⟨hk.1, fun e => Nat.not_le.2 hk.2 (Kd.N_base HO9.out k_ e.symm)⟩) (fun k_ hk => Nat.le_trans HB.out (Nat.le_trans HB9.out.size hk)) HB9.out HB9.out.size (by have := HLN.out; omega) ?_; intro v10 w10 ho hb hg hat; clear hg hat; have HO10 := Aside0.mk ho; have HB10 := Aside0.mk hb; clear ho hb) | ((with_reducible refine gate_dst (N := 67) rfl ?_); refine Kd.N_lit k49 _ 49 ?hg (N' := 67) ?hd (xs := ([(⟨4, []⟩ : S49)])) (inner := [.int .i64 4, .slice none 0 0]) (ok := (fun k_ => w10.heap.size ≤ k_)) (okp := (fun k_ => w10.heap.size ≤ k_)) ?hr ?hp (fun _ hk => hk) (Nat.le_refl _) (Below.refl _ _) (Nat.le_refl _) (by simp) ?_; (case hd => rfl); (case hg => rfl); (case hr => first | (go_simp; done) | (go_simp; rfl)); (case hp => exact (Reps.c2 (show Kd.FK k49 _ _ (⟨4, ([] : List Int)⟩ : S49) [.int .i64 4, .slice none 0 0] from (k49_mkF _ _ (⟨4, ([] : List Int)⟩ : S49) (Nat.le_refl _) (Kd.F_nil _ _ _))) (Reps.none _ _))); intro v11 w11 ho hb hg_ hnew_; clear hg_ hnew_; have HO11 := Aside0.mk ho; have HB11 := Aside0.mk hb; clear ho hb; obtain ⟨A11, c11, eo11⟩ := Kd.N_slice HO11.out; subst eo11) | ((with_reducible refine gate_builtin (b := .append) (xs := #[.tmp 64, .tmp 67]) rfl ?_); at_builtin; refine Kd.N_append_rows k49 (w0 := w) w.heap.size rfl (.tmp 64) (.tmp 67) 25 49 (.agg #[(.int .i64 0), (.slice none 0 0)]) 32 rfl Try.underlying25 info49 rfl (by decide) (by decide) v10 (l1 ++ l2) [(⟨4, []⟩ : S49)] _ _ _ (fun k_ => B ≤ k_) (fun k_ => w10.heap.size ≤ k_) rfl rfl (Kd.N_below HO10.out HB11.out) (Kd.N_F HO11.out) (fun k_ hk => ⟨Nat.le_trans HB.out (Nat.le_trans HB10.out.size hk), fun e => Nat.not_lt.2 hk (Kd.N_lt HO10.out k_ e.symm)⟩) (fun k_ hk => Nat.le_trans HB.out (Nat.le_trans HB10.out.size (Nat.le_trans HB11.out.size hk))) (HB10.out.trans (HB11.out.mono HB10.out.size)) (Nat.le_trans HB10.out.size HB11.out.size) (by have := HLN.out; simp only [List.length_append, List.length_singleton]; omega) ?_; intro v12 w12 ho hb hg hat; clear hg hat; have HO12 := Aside0.mk ho; have HB12 := Aside0.mk hb; clear ho hb))
  go_ret
  exact ⟨_, rfl, Kd.N_lower HO12.out HB.out, HB12.out⟩
set_option maxHeartbeats 8000000 in
set_option maxRecDepth 100000 in
theorem two_5_0 (k : Nat) (B : Nat) (nB iA iB sm : Bool) (A1 : Option Addr) (c1 : Nat) (l1 : List S49) (A2 : Option Addr) (c2 : Nat) (l2 : List S49) (w : World) (hB : B ≤ w.heap.size) (h1 : Kd.N k49 49 w B (fun k_ => B ≤ k_) (.slice A1 l1.length c1) l1) (h2 : Kd.N k49 49 w B (fun k_ => B ≤ k_) (.slice A2 l2.length c2) l2)
    (hnA : spec_l5IsNone.f l1 = some true) (hnB : spec_l5IsNone.f l2 = some nB) (hiA : spec_l5IsNil.f l1 = some iA) (hiB : spec_l5IsNil.f l2 = some iB) (hsm : spec_l5Same.f k l1 l2 = some sm) (hoa : spec_l5Own.f k l1 = some l1) (hno : spec_l5None.f = some [⟨2, []⟩]) (hlen : l1.length + l2.length < 1099511627776) :
    Calls Try.prog 96 #[.int .i64 5, .slice A1 l1.length c1, .slice A2 l2.length c2] w fun e w' => ∃ v0_ : Value, e = .returned v0_ ∧ Kd.N k49 49 w' B (fun k_ => B ≤ k_) v0_ [⟨2, []⟩] ∧ Below w.heap.size w w' := by
  have hu49 := Try.underlying49
  have hC1 := (Kd.N_reads' h1).2.2
  have hC2 := (Kd.N_reads' h2).2.2
  have hl1 := (Kd.N_reads' h1).2.1
  have hl2 := (Kd.N_reads' h2).2.1
  have HNA := Aside0.mk (fun (W : World) (hb : Below w.heap.size w W) => spec_l5IsNone.calls A1 c1 l1 true W (Kd.C_below hC1 hb) hl1 hnA)
  have HNB := Aside0.mk (fun (W : World) (hb : Below w.heap.size w W) => spec_l5IsNone.calls A2 c2 l2 nB W (Kd.C_below hC2 hb) hl2 hnB)
  have HIA := Aside0.mk (fun (W : World) (hb : Below w.heap.size w W) => spec_l5IsNil.calls A1 c1 l1 iA W (Kd.C_below hC1 hb) hl1 hiA)
  have HIB := Aside0.mk (fun (W : World) (hb : Below w.heap.size w W) => spec_l5IsNil.calls A2 c2 l2 iB W (Kd.C_below hC2 hb) hl2 hiB)
  have HSM := Aside0.mk (fun (W : World) (hb : Below w.heap.size w W) => spec_l5Same.calls k A1 c1 l1 A2 c2 l2 sm W (Kd.C_below hC1 hb) hl1 (Kd.C_below hC2 hb) hl2 hsm)
  have HOW := Aside0.mk (fun (W : World) (hb : Below w.heap.size w W) => (spec_l5Own.calls k A1 c1 l1 l1 W (Kd.C_below hC1 hb) hl1 hoa).mono (fun (e : Ending) (w' : World) ⟨v0, he, ho, h⟩ => (⟨v0, he, Kd.N_mono (Kd.N_lower (Kd.S_N (Kd.S_bound ho)) hb.size) (fun k_ hk => Nat.le_trans hb.size hk.2.1), hb.trans (h.mono hb.size)⟩ : ∃ v0 : Value, e = Ending.returned v0 ∧ Kd.N k49 49 w' w.heap.size (fun k_ => w.heap.size ≤ k_) v0 l1 ∧ Below w.heap.size w w')))
  have HNO := Aside0.mk (fun (W : World) (hb : Below w.heap.size w W) => (spec_l5None.calls [(⟨2, []⟩ : S49)] W hno).mono (fun (e : Ending) (w' : World) ⟨v0, he, ho, h⟩ => (⟨v0, he, Kd.N_mono (Kd.N_lower (Kd.S_N (Kd.S_bound ho)) (Nat.le_trans hB hb.size)) (fun k_ hk => Nat.le_trans (Nat.le_trans hB hb.size) hk.2.1), hb.trans (h.mono hb.size)⟩ : ∃ v0 : Value, e = Ending.returned v0 ∧ Kd.N k49 49 w' B (fun k_ => B ≤ k_) v0 [(⟨2, []⟩ : S49)] ∧ Below w.heap.size w w')))
  have H1 := Aside0.mk h1
  have H2 := Aside0.mk h2
  have HB := Aside0.mk hB
  have HLN := Aside0.mk hlen
  clear hC1 hC2 hl1 hl2 h1 h2 hnA hnB hiA hiB hsm hoa hno hB hlen
  go_enter Try.func96, Try.ntmps96
  go_wp2_with (first | (go_at_call 98; (first | (with_reducible refine (HNA.out _ ?side).mono ?_) | (with_reducible refine (HNB.out _ ?side).mono ?_)); (case side => repeat (first | (with_reducible first | exact Below.refl _ _ | apply pw_below_drewN | apply below_drew1 | apply below_alloc))); rintro e w' ⟨rfl, ⟨nd, rfl⟩⟩) | (go_at_call 97; (first | (with_reducible refine (HIA.out _ ?side).mono ?_) | (with_reducible refine (HIB.out _ ?side).mono ?_)); (case side => repeat (first | (with_reducible first | exact Below.refl _ _ | apply pw_below_drewN | apply below_drew1 | apply below_alloc))); rintro e w' ⟨rfl, ⟨nd, rfl⟩⟩) | (go_at_call 115; (first | (with_reducible refine (HSM.out _ ?side).mono ?_)); (case side => repeat (first | (with_reducible first | exact Below.refl _ _ | apply pw_below_drewN | apply below_drew1 | apply below_alloc))); rintro e w' ⟨rfl, ⟨nd, rfl⟩⟩) | (go_at_call 106; with_reducible refine (HNO.out _ ?side).mono ?_; (case side => repeat (first | (with_reducible first | exact Below.refl _ _ | apply pw_below_drewN | apply below_drew1 | apply below_alloc))); rintro e w9 ⟨v9, rfl, ho, hb⟩; have HO9 := Aside0.mk ho; have HB9 := Aside0.mk hb; clear ho hb))
  go_ret
  exact ⟨_, rfl, HO9.out, HB9.out⟩
set_option maxHeartbeats 8000000 in
set_option maxRecDepth 100000 in
theorem two_5_1 (k : Nat) (B : Nat) (iA iB sm : Bool) (A1 : Option Addr) (c1 : Nat) (l1 : List S49) (A2 : Option Addr) (c2 : Nat) (l2 : List S49) (w : World) (hB : B ≤ w.heap.size) (h1 : Kd.N k49 49 w B (fun k_ => B ≤ k_) (.slice A1 l1.length c1) l1) (h2 : Kd.N k49 49 w B (fun k_ => B ≤ k_) (.slice A2 l2.length c2) l2)
    (hnA : spec_l5IsNone.f l1 = some false) (hnB : spec_l5IsNone.f l2 = some true) (hiA : spec_l5IsNil.f l1 = some iA) (hiB : spec_l5IsNil.f l2 = some iB) (hsm : spec_l5Same.f k l1 l2 = some sm) (hoa : spec_l5Own.f k l1 = some l1) (hno : spec_l5None.f = some [⟨2, []⟩]) (hlen : l1.length + l2.length < 1099511627776) :
    Calls Try.prog 96 #[.int .i64 5, .slice A1 l1.length c1, .slice A2 l2.length c2] w fun e w' => ∃ v0_ : Value, e = .returned v0_ ∧ Kd.N k49 49 w' B (fun k_ => B ≤ k_) v0_ [⟨2, []⟩] ∧ Below w.heap.size w w' := by
  have hu49 := Try.underlying49
  have hC1 := (Kd.N_reads' h1).2.2
  have hC2 := (Kd.N_reads' h2).2.2
  have hl1 := (Kd.N_reads' h1).2.1
  have hl2 := (Kd.N_reads' h2).2.1
  have HNA := Aside0.mk (fun (W : World) (hb : Below w.heap.size w W) => spec_l5IsNone.calls A1 c1 l1 false W (Kd.C_below hC1 hb) hl1 hnA)
  have HNB := Aside0.mk (fun (W : World) (hb : Below w.heap.size w W) => spec_l5IsNone.calls A2 c2 l2 true W (Kd.C_below hC2 hb) hl2 hnB)
  have HIA := Aside0.mk (fun (W : World) (hb : Below w.heap.size w W) => spec_l5IsNil.calls A1 c1 l1 iA W (Kd.C_below hC1 hb) hl1 hiA)
  have HIB := Aside0.mk (fun (W : World) (hb : Below w.heap.size w W) => spec_l5IsNil.calls A2 c2 l2 iB W (Kd.C_below hC2 hb) hl2 hiB)
  have HSM := Aside0.mk (fun (W : World) (hb : Below w.heap.size w W) => spec_l5Same.calls k A1 c1 l1 A2 c2 l2 sm W (Kd.C_below hC1 hb) hl1 (Kd.C_below hC2 hb) hl2 hsm)
  have HOW := Aside0.mk (fun (W : World) (hb : Below w.heap.size w W) => (spec_l5Own.calls k A1 c1 l1 l1 W (Kd.C_below hC1 hb) hl1 hoa).mono (fun (e : Ending) (w' : World) ⟨v0, he, ho, h⟩ => (⟨v0, he, Kd.N_mono (Kd.N_lower (Kd.S_N (Kd.S_bound ho)) hb.size) (fun k_ hk => Nat.le_trans hb.size hk.2.1), hb.trans (h.mono hb.size)⟩ : ∃ v0 : Value, e = Ending.returned v0 ∧ Kd.N k49 49 w' w.heap.size (fun k_ => w.heap.size ≤ k_) v0 l1 ∧ Below w.heap.size w w')))
  have HNO := Aside0.mk (fun (W : World) (hb : Below w.heap.size w W) => (spec_l5None.calls [(⟨2, []⟩ : S49)] W hno).mono (fun (e : Ending) (w' : World) ⟨v0, he, ho, h⟩ => (⟨v0, he, Kd.N_mono (Kd.N_lower (Kd.S_N (Kd.S_bound ho)) (Nat.le_trans hB hb.size)) (fun k_ hk => Nat.le_trans (Nat.le_trans hB hb.size) hk.2.1), hb.trans (h.mono hb.size)⟩ : ∃ v0 : Value, e = Ending.returned v0 ∧ Kd.N k49 49 w' B (fun k_ => B ≤ k_) v0 [(⟨2, []⟩ : S49)] ∧ Below w.heap.size w w')))
  have H1 := Aside0.mk h1
  have H2 := Aside0.mk h2
  have HB := Aside0.mk hB
  have HLN := Aside0.mk hlen
  clear hC1 hC2 hl1 hl2 h1 h2 hnA hnB hiA hiB hsm hoa hno hB hlen
  go_enter Try.func96, Try.ntmps96
  go_wp2_with (first | (go_at_call 98; (first | (with_reducible refine (HNA.out _ ?side).mono ?_) | (with_reducible refine (HNB.out _ ?side).mono ?_)); (case side => repeat (first | (with_reducible first | exact Below.refl _ _ | apply pw_below_drewN | apply below_drew1 | apply below_alloc))); rintro e w' ⟨rfl, ⟨nd, rfl⟩⟩) | (go_at_call 97; (first | (with_reducible refine (HIA.out _ ?side).mono ?_) | (with_reducible refine (HIB.out _ ?side).mono ?_)); (case side => repeat (first | (with_reducible first | exact Below.refl _ _ | apply pw_below_drewN | apply below_drew1 | apply below_alloc))); rintro e w' ⟨rfl, ⟨nd, rfl⟩⟩) | (go_at_call 115; (first | (with_reducible refine (HSM.out _ ?side).mono ?_)); (case side => repeat (first | (with_reducible first | exact Below.refl _ _ | apply pw_below_drewN | apply below_drew1 | apply below_alloc))); rintro e w' ⟨rfl, ⟨nd, rfl⟩⟩) | (go_at_call 106; with_reducible refine (HNO.out _ ?side).mono ?_; (case side => repeat (first | (with_reducible first | exact Below.refl _ _ | apply pw_below_drewN | apply below_drew1 | apply below_alloc))); rintro e w9 ⟨v9, rfl, ho, hb⟩; have HO9 := Aside0.mk ho; have HB9 := Aside0.mk hb; clear ho hb))
  go_ret
  exact ⟨_, rfl, HO9.out, HB9.out⟩
set_option maxHeartbeats 8000000 in
set_option maxRecDepth 100000 in
theorem two_5_2 (k : Nat) (B : Nat) (iA iB : Bool) (A1 : Option Addr) (c1 : Nat) (l1 : List S49) (A2 : Option Addr) (c2 : Nat) (l2 : List S49) (w : World) (hB : B ≤ w.heap.size) (h1 : Kd.N k49 49 w B (fun k_ => B ≤ k_) (.slice A1 l1.length c1) l1) (h2 : Kd.N k49 49 w B (fun k_ => B ≤ k_) (.slice A2 l2.length c2) l2)
    (hnA : spec_l5IsNone.f l1 = some false) (hnB : spec_l5IsNone.f l2 = some false) (hiA : spec_l5IsNil.f l1 = some iA) (hiB : spec_l5IsNil.f l2 = some iB) (hsm : spec_l5Same.f k l1 l2 = some true) (hoa : spec_l5Own.f k l1 = some l1) (hno : spec_l5None.f = some [⟨2, []⟩]) (hlen : l1.length + l2.length < 1099511627776) :
    Calls Try.prog 96 #[.int .i64 5, .slice A1 l1.length c1, .slice A2 l2.length c2] w fun e w' => ∃ v0_ : Value, e = .returned v0_ ∧ Kd.N k49 49 w' B (fun k_ => B ≤ k_) v0_ l1 ∧ Below w.heap.size w w' := by
  have hu49 := Try.underlying49
  have hC1 := (Kd.N_reads' h1).2.2
  have hC2 := (Kd.N_reads' h2).2.2
  have hl1 := (Kd.N_reads' h1).2.1
  have hl2 := (Kd.N_reads' h2).2.1
  have HNA := Aside0.mk (fun (W : World) (hb : Below w.heap.size w W) => spec_l5IsNone.calls A1 c1 l1 false W (Kd.C_below hC1 hb) hl1 hnA)
  have HNB := Aside0.mk (fun (W : World) (hb : Below w.heap.size w W) => spec_l5IsNone.calls A2 c2 l2 false W (Kd.C_below hC2 hb) hl2 hnB)
  have HIA := Aside0.mk (fun (W : World) (hb : Below w.heap.size w W) => spec_l5IsNil.calls A1 c1 l1 iA W (Kd.C_below hC1 hb) hl1 hiA)
  have HIB := Aside0.mk (fun (W : World) (hb : Below w.heap.size w W) => spec_l5IsNil.calls A2 c2 l2 iB W (Kd.C_below hC2 hb) hl2 hiB)
  have HSM := Aside0.mk (fun (W : World) (hb : Below w.heap.size w W) => spec_l5Same.calls k A1 c1 l1 A2 c2 l2 true W (Kd.C_below hC1 hb) hl1 (Kd.C_below hC2 hb) hl2 hsm)
  have HOW := Aside0.mk (fun (W : World) (hb : Below w.heap.size w W) => (spec_l5Own.calls k A1 c1 l1 l1 W (Kd.C_below hC1 hb) hl1 hoa).mono (fun (e : Ending) (w' : World) ⟨v0, he, ho, h⟩ => (⟨v0, he, Kd.N_mono (Kd.N_lower (Kd.S_N (Kd.S_bound ho)) hb.size) (fun k_ hk => Nat.le_trans hb.size hk.2.1), hb.trans (h.mono hb.size)⟩ : ∃ v0 : Value, e = Ending.returned v0 ∧ Kd.N k49 49 w' w.heap.size (fun k_ => w.heap.size ≤ k_) v0 l1 ∧ Below w.heap.size w w')))
  have HNO := Aside0.mk (fun (W : World) (hb : Below w.heap.size w W) => (spec_l5None.calls [(⟨2, []⟩ : S49)] W hno).mono (fun (e : Ending) (w' : World) ⟨v0, he, ho, h⟩ => (⟨v0, he, Kd.N_mono (Kd.N_lower (Kd.S_N (Kd.S_bound ho)) (Nat.le_trans hB hb.size)) (fun k_ hk => Nat.le_trans (Nat.le_trans hB hb.size) hk.2.1), hb.trans (h.mono hb.size)⟩ : ∃ v0 : Value, e = Ending.returned v0 ∧ Kd.N k49 49 w' B (fun k_ => B ≤ k_) v0 [(⟨2, []⟩ : S49)] ∧ Below w.heap.size w w')))
  have H1 := Aside0.mk h1
  have H2 := Aside0.mk h2
  have HB := Aside0.mk hB
  have HLN := Aside0.mk hlen
  clear hC1 hC2 hl1 hl2 h1 h2 hnA hnB hiA hiB hsm hoa hno hB hlen
  go_enter Try.func96, Try.ntmps96
  go_wp2_with (first | (go_at_call 98; (first | (with_reducible refine (HNA.out _ ?side).mono ?_) | (with_reducible refine (HNB.out _ ?side).mono ?_)); (case side => repeat (first | (with_reducible first | exact Below.refl _ _ | apply pw_below_drewN | apply below_drew1 | apply below_alloc))); rintro e w' ⟨rfl, ⟨nd, rfl⟩⟩) | (go_at_call 97; (first | (with_reducible refine (HIA.out _ ?side).mono ?_) | (with_reducible refine (HIB.out _ ?side).mono ?_)); (case side => repeat (first | (with_reducible first | exact Below.refl _ _ | apply pw_below_drewN | apply below_drew1 | apply below_alloc))); rintro e w' ⟨rfl, ⟨nd, rfl⟩⟩) | (go_at_call 115; (first | (with_reducible refine (HSM.out _ ?side).mono ?_)); (case side => repeat (first | (with_reducible first | exact Below.refl _ _ | apply pw_below_drewN | apply below_drew1 | apply below_alloc))); rintro e w' ⟨rfl, ⟨nd, rfl⟩⟩))
  go_ret
  exact ⟨_, rfl, Kd.N_below H1.out (by repeat (first | (with_reducible first | exact Below.refl _ _ | apply pw_below_drewN | apply below_drew1 | apply below_alloc))), by repeat (first | (with_reducible first | exact Below.refl _ _ | apply pw_below_drewN | apply below_drew1 | apply below_alloc))⟩
set_option maxHeartbeats 8000000 in
set_option maxRecDepth 100000 in
theorem two_5_3 (k : Nat) (B : Nat) (iA iB : Bool) (A1 : Option Addr) (c1 : Nat) (l1 : List S49) (A2 : Option Addr) (c2 : Nat) (l2 : List S49) (w : World) (hB : B ≤ w.heap.size) (h1 : Kd.N k49 49 w B (fun k_ => B ≤ k_) (.slice A1 l1.length c1) l1) (h2 : Kd.N k49 49 w B (fun k_ => B ≤ k_) (.slice A2 l2.length c2) l2)
    (hnA : spec_l5IsNone.f l1 = some false) (hnB : spec_l5IsNone.f l2 = some false) (hiA : spec_l5IsNil.f l1 = some iA) (hiB : spec_l5IsNil.f l2 = some iB) (hsm : spec_l5Same.f k l1 l2 = some false) (hoa : spec_l5Own.f k l1 = some l1) (hno : spec_l5None.f = some [⟨2, []⟩]) (hlen : l1.length + l2.length < 1099511627776) :
    Calls Try.prog 96 #[.int .i64 5, .slice A1 l1.length c1, .slice A2 l2.length c2] w fun e w' => ∃ v0_ : Value, e = .returned v0_ ∧ Kd.N k49 49 w' B (fun k_ => B ≤ k_) v0_ (l1 ++ l2 ++ [⟨5, []⟩]) ∧ Below w.heap.size w w' := by
  have hu49 := Try.underlying49
  have hC1 := (Kd.N_reads' h1).2.2
  have hC2 := (Kd.N_reads' h2).2.2
  have hl1 := (Kd.N_reads' h1).2.1
  have hl2 := (Kd.N_reads' h2).2.1
  have HNA := Aside0.mk (fun (W : World) (hb : Below w.heap.size w W) => spec_l5IsNone.calls A1 c1 l1 false W (Kd.C_below hC1 hb) hl1 hnA)
  have HNB := Aside0.mk (fun (W : World) (hb : Below w.heap.size w W) => spec_l5IsNone.calls A2 c2 l2 false W (Kd.C_below hC2 hb) hl2 hnB)
  have HIA := Aside0.mk (fun (W : World) (hb : Below w.heap.size w W) => spec_l5IsNil.calls A1 c1 l1 iA W (Kd.C_below hC1 hb) hl1 hiA)
  have HIB := Aside0.mk (fun (W : World) (hb : Below w.heap.size w W) => spec_l5IsNil.calls A2 c2 l2 iB W (Kd.C_below hC2 hb) hl2 hiB)
  have HSM := Aside0.mk (fun (W : World) (hb : Below w.heap.size w W) => spec_l5Same.calls k A1 c1 l1 A2 c2 l2 false W (Kd.C_below hC1 hb) hl1 (Kd.C_below hC2 hb) hl2 hsm)
  have HOW := Aside0.mk (fun (W : World) (hb : Below w.heap.size w W) => (spec_l5Own.calls k A1 c1 l1 l1 W (Kd.C_below hC1 hb) hl1 hoa).mono (fun (e : Ending) (w' : World) ⟨v0, he, ho, h⟩ => (⟨v0, he, Kd.N_mono (Kd.N_lower (Kd.S_N (Kd.S_bound ho)) hb.size) (fun k_ hk => Nat.le_trans hb.size hk.2.1), hb.trans (h.mono hb.size)⟩ : ∃ v0 : Value, e = Ending.returned v0 ∧ Kd.N k49 49 w' w.heap.size (fun k_ => w.heap.size ≤ k_) v0 l1 ∧ Below w.heap.size w w')))
  have HNO := Aside0.mk (fun (W : World) (hb : Below w.heap.size w W) => (spec_l5None.calls [(⟨2, []⟩ : S49)] W hno).mono (fun (e : Ending) (w' : World) ⟨v0, he, ho, h⟩ => (⟨v0, he, Kd.N_mono (Kd.N_lower (Kd.S_N (Kd.S_bound ho)) (Nat.le_trans hB hb.size)) (fun k_ hk => Nat.le_trans (Nat.le_trans hB hb.size) hk.2.1), hb.trans (h.mono hb.size)⟩ : ∃ v0 : Value, e = Ending.returned v0 ∧ Kd.N k49 49 w' B (fun k_ => B ≤ k_) v0 [(⟨2, []⟩ : S49)] ∧ Below w.heap.size w w')))
  have H1 := Aside0.mk h1
  have H2 := Aside0.mk h2
  have HB := Aside0.mk hB
  have HLN := Aside0.mk hlen
  clear hC1 hC2 hl1 hl2 h1 h2 hnA hnB hiA hiB hsm hoa hno hB hlen
  go_enter Try.func96, Try.ntmps96
  go_wp2_with (first | (go_at_call 98; (first | (with_reducible refine (HNA.out _ ?side).mono ?_) | (with_reducible refine (HNB.out _ ?side).mono ?_)); (case side => repeat (first | (with_reducible first | exact Below.refl _ _ | apply pw_below_drewN | apply below_drew1 | apply below_alloc))); rintro e w' ⟨rfl, ⟨nd, rfl⟩⟩) | (go_at_call 97; (first | (with_reducible refine (HIA.out _ ?side).mono ?_) | (with_reducible refine (HIB.out _ ?side).mono ?_)); (case side => repeat (first | (with_reducible first | exact Below.refl _ _ | apply pw_below_drewN | apply below_drew1 | apply below_alloc))); rintro e w' ⟨rfl, ⟨nd, rfl⟩⟩) | (go_at_call 115; (first | (with_reducible refine (HSM.out _ ?side).mono ?_)); (case side => repeat (first | (with_reducible first | exact Below.refl _ _ | apply pw_below_drewN | apply below_drew1 | apply below_alloc))); rintro e w' ⟨rfl, ⟨nd, rfl⟩⟩) | (go_at_call 65; with_reducible refine (HOW.out _ ?side).mono ?_; (case side => repeat (first | (with_reducible first | exact Below.refl _ _ | apply pw_below_drewN | apply below_drew1 | apply below_alloc))); rintro e w9 ⟨v9, rfl, ho, hb⟩; have HO9 := Aside0.mk ho; have HB9 := Aside0.mk hb; clear ho hb) | ((with_reducible refine gate_builtin (b := .append) (xs := #[.tmp 62, .tmp 63]) rfl ?_); at_builtin; refine Kd.N_append_rows k49 (w0 := w) w.heap.size rfl (.tmp 62) (.tmp 63) 25 49 (.agg #[(.int .i64 0), (.slice none 0 0)]) 32 rfl Try.underlying25 info49 rfl (by decide) (by decide) v9 l1 l2 _ _ _ (fun k_ => B ≤ k_) (fun k_ => B ≤ k_ ∧ k_ < w.heap.size) rfl rfl (Kd.N_mono HO9.out (fun k_ hk => Nat.le_trans HB.out hk)) (Kd.F_below (Kd.N_F (Kd.N_bound H2.out)) HB9.out) (fun k_ hk => ⟨hk.1, fun e => Nat.not_le.2 hk.2 (Kd.N_base HO9.out k_ e.symm)⟩) (fun k_ hk => Nat.le_trans HB.out (Nat.le_trans HB9.out.size hk)) HB9.out HB9.out.size (by have := HLN.out; omega) ?_; intro v10 w10 ho hb hg hat; clear hg hat; have HO10 := Aside0.mk ho; have HB10 := Aside0.mk hb; clear ho hb) | ((with_reducible refine gate_dst (N := 67) rfl ?_); refine Kd.N_lit k49 _ 49 ?hg (N' := 67) ?hd (xs := ([(⟨5, []⟩ : S49)])) (inner := [.int .i64 5, .slice none 0 0]) (ok := (fun k_ => w10.heap.size ≤ k_)) (okp := (fun k_ => w10.heap.size ≤ k_)) ?hr ?hp (fun _ hk => hk) (Nat.le_refl _) (Below.refl _ _) (Nat.le_refl _) (by simp) ?_; (case hd => rfl); (case hg => rfl); (case hr => first | (go_simp; done) | (go_simp; rfl)); (case hp => exact (Reps.c2 (show Kd.FK k49 _ _ (⟨5, ([] : List Int)⟩ : S49) [.int .i64 5, .slice none 0 0] from (k49_mkF _ _ (⟨5, ([] : List Int)⟩ : S49) (Nat.le_refl _) (Kd.F_nil _ _ _))) (Reps.none _ _))); intro v11 w11 ho hb hg_ hnew_; clear hg_ hnew_; have HO11 := Aside0.mk ho; have HB11 := Aside0.mk hb; clear ho hb; obtain ⟨A11, c11, eo11⟩ := Kd.N_slice HO11.out; subst eo11) | ((with_reducible refine gate_builtin (b := .append) (xs := #[.tmp 64, .tmp 67]) rfl ?_); at_builtin; refine Kd.N_append_rows k49 (w0 := w) w.heap.size rfl (.tmp 64) (.tmp 67) 25 49 (.agg #[(.int .i64 0), (.slice none 0 0)]) 32 rfl Try.underlying25 info49 rfl (by decide) (by decide) v10 (l1 ++ l2) [(⟨5, []⟩ : S49)] _ _ _ (fun k_ => B ≤ k_) (fun k_ => w10.heap.size ≤ k_) rfl rfl (Kd.N_below HO10.out HB11.out) (Kd.N_F HO11.out) (fun k_ hk => ⟨Nat.le_trans HB.out (Nat.le_trans HB10.out.size hk), fun e => Nat.not_lt.2 hk (Kd.N_lt HO10.out k_ e.symm)⟩) (fun k_ hk => Nat.le_trans HB.out (Nat.le_trans HB10.out.size (Nat.le_trans HB11.out.size hk))) (HB10.out.trans (HB11.out.mono HB10.out.size)) (Nat.le_trans HB10.out.size HB11.out.size) (by have := HLN.out; simp only [List.length_append, List.length_singleton]; omega) ?_; intro v12 w12 ho hb hg hat; clear hg hat; have HO12 := Aside0.mk ho; have HB12 := Aside0.mk hb; clear ho hb))
  go_ret
  exact ⟨_, rfl, Kd.N_lower HO12.out HB.out, HB12.out⟩
theorem spec_l5Two.calls (k : Nat) (op : Int) (B : Nat) (A1 : Option Addr) (c1 : Nat) (l1 : List S49) (A2 : Option Addr) (c2 : Nat) (l2 : List S49) (r : List S49) (w : World) (hB : B ≤ w.heap.size) (h1 : Kd.N k49 49 w B (fun k_ => B ≤ k_) (.slice A1 l1.length c1) l1) (h2 : Kd.N k49 49 w B (fun k_ => B ≤ k_) (.slice A2 l2.length c2) l2) (h : spec_l5Two.f k op l1 l2 = some r) :
    Calls Try.prog 96 #[.int .i64 op, .slice A1 l1.length c1, .slice A2 l2.length c2] w fun e w' => ∃ v0_ : Value, e = .returned v0_ ∧ Kd.N k49 49 w' B (fun k_ => B ≤ k_) v0_ r ∧ Below w.heap.size w w' := by
  unfold spec_l5Two.f at h
  obtain ⟨nA, hnA, h⟩ := Option.bind_eq_some_iff.mp h
  obtain ⟨nB, hnB, h⟩ := Option.bind_eq_some_iff.mp h
  obtain ⟨iA, hiA, h⟩ := Option.bind_eq_some_iff.mp h
  obtain ⟨iB, hiB, h⟩ := Option.bind_eq_some_iff.mp h
  obtain ⟨sm, hsm, h⟩ := Option.bind_eq_some_iff.mp h
  obtain ⟨oa, hoa, h⟩ := Option.bind_eq_some_iff.mp h
  obtain ⟨no, hno, h⟩ := Option.bind_eq_some_iff.mp h
  obtain ⟨r', hr, h⟩ := Option.bind_eq_some_iff.mp h
  split at h
  case isFalse => cases h
  rename_i eo
  split at h
  case isFalse => cases h
  rename_i en
  obtain rfl := Option.some.inj h
  have eo' := re_map eo
  have en' : no = [(⟨2, []⟩ : S49)] := re_map en
  subst eo' en'
  clear h eo en
  split at hr
  case isFalse => cases hr
  rename_i hlen
  unfold twoV at hr
  split at hr
  case isTrue e3 =>
    subst e3
    obtain rfl := Option.some.inj hr
    cases nA with
    | true => exact two_3_0 k B nB iA iB sm A1 c1 _ A2 c2 l2 w hB h1 h2 hnA hnB hiA hiB hsm hoa hno hlen
    | false =>
      cases nB with
      | true => exact two_3_1 k B iA iB sm A1 c1 _ A2 c2 l2 w hB h1 h2 hnA hnB hiA hiB hsm hoa hno hlen
      | false =>
        cases iA with
        | true => exact two_3_2 k B iB sm A1 c1 _ A2 c2 l2 w hB h1 h2 hnA hnB hiA hiB hsm hoa hno hlen
        | false =>
          cases iB with
          | true => exact two_3_3 k B sm A1 c1 _ A2 c2 l2 w hB h1 h2 hnA hnB hiA hiB hsm hoa hno hlen
          | false => exact two_3_4 k B sm A1 c1 _ A2 c2 l2 w hB h1 h2 hnA hnB hiA hiB hsm hoa hno hlen
  split at hr
  case isTrue e4 =>
    subst e4
    obtain rfl := Option.some.inj hr
    cases nA with
    | true => exact two_4_0 k B nB iA iB sm A1 c1 _ A2 c2 l2 w hB h1 h2 hnA hnB hiA hiB hsm hoa hno hlen
    | false =>
      cases nB with
      | true => exact two_4_1 k B iA iB sm A1 c1 _ A2 c2 l2 w hB h1 h2 hnA hnB hiA hiB hsm hoa hno hlen
      | false =>
        cases sm with
        | true => exact two_4_2 k B iA iB A1 c1 _ A2 c2 l2 w hB h1 h2 hnA hnB hiA hiB hsm hoa hno hlen
        | false => exact two_4_3 k B iA iB A1 c1 _ A2 c2 l2 w hB h1 h2 hnA hnB hiA hiB hsm hoa hno hlen
  split at hr
  case isTrue e5 =>
    subst e5
    obtain rfl := Option.some.inj hr
    cases nA with
    | true => exact two_5_0 k B nB iA iB sm A1 c1 _ A2 c2 l2 w hB h1 h2 hnA hnB hiA hiB hsm hoa hno hlen
    | false =>
      cases nB with
      | true => exact two_5_1 k B iA iB sm A1 c1 _ A2 c2 l2 w hB h1 h2 hnA hnB hiA hiB hsm hoa hno hlen
      | false =>
        cases sm with
        | true => exact two_5_2 k B iA iB A1 c1 _ A2 c2 l2 w hB h1 h2 hnA hnB hiA hiB hsm hoa hno hlen
        | false => exact two_5_3 k B iA iB A1 c1 _ A2 c2 l2 w hB h1 h2 hnA hnB hiA hiB hsm hoa hno hlen
  cases hr
def lastO (a : List S49) : Int := (rd_T49 a ((a.length : Int) - 1)).f0
def tidy1O (op : Int) (iA nA : Bool) (a : List S49) : Option (List S49) :=
  if op = 6 then some (if iA = true then [⟨1, []⟩] else if nA = true then [⟨1, []⟩] else if lastO a = 6 then a else a ++ [⟨6, []⟩])
  else if op = 7 then some (if lastO a = 7 then a.take (a.length - 1) else a ++ [⟨7, []⟩])
  else none
def spec_l5Tidy.f : Nat → List S49 → Int → Option (List S49)
  | 0, _, _ => none
  | k + 1, p, a1 => if 0 ≤ a1 then (if a1 < (p.length : Int) then ((spec_l5Arity.f k (rd_T49 p a1).f0).bind fun ar =>
      if ar = 0 then spec_l5Own.f k ((p.take (a1 + 1).toNat).drop a1.toNat)
      else if ar = 2 then (spec_l5First.f k p a1).bind fun fi => (spec_l5Tidy.f k p fi).bind fun a => (spec_l5Tidy.f k p (a1 - 1)).bind fun b => spec_l5Two.f k (rd_T49 p a1).f0 a b
      else (spec_l5Tidy.f k p (a1 - 1)).bind fun a => if 0 < a.length then (if a.length < 1099511627776 then (spec_l5IsNil.f a).bind fun iA => (spec_l5IsNone.f a).bind fun nA => tidy1O (rd_T49 p a1).f0 iA nA a else none) else none) else none) else none
theorem spec_l5Tidy.mono : ∀ a0 a1 k, LeO (spec_l5Tidy.f k a0 a1) (spec_l5Tidy.f (k + 1) a0 a1) := by
  intro p a1 k
  induction k generalizing a1 with
  | zero => exact fun r h => by simp [spec_l5Tidy.f] at h
  | succ k ih =>
    rw [spec_l5Tidy.f, spec_l5Tidy.f]
    refine LeO.ite (LeO.ite (LeO.bind (spec_l5Arity.mono _ _) (fun _ => LeO.ite (spec_l5Own.mono _ _) (LeO.ite (LeO.bind (spec_l5First.mono _ _ _) (fun _ => LeO.bind (ih _) (fun _ => LeO.bind (ih _) (fun _ => spec_l5Two.mono _ _ _ _)))) (LeO.bind (ih _) (fun _ => LeO.refl _))))) (LeO.refl _)) (LeO.refl _)
/-- What the walk needs of the function one round below. -/
def tidyIH (k : Nat) : Prop := ∀ (A0 : Option Addr) (c0 : Nat) (l0 : List S49) (a1 : Int) (r : List S49) (w : World), Kd.C k49 w A0 l0.length l0 → l0.length ≤ c0 → spec_l5Tidy.f k l0 a1 = some r →
    Calls Try.prog 68 #[.slice A0 l0.length c0, .int .i64 a1] w fun e w' => ∃ v0_ : Value, e = .returned v0_ ∧ Kd.N k49 49 w' w.heap.size (fun k_ => w.heap.size ≤ k_) v0_ r ∧ Below w.heap.size w w'
set_option maxHeartbeats 8000000 in
set_option maxRecDepth 100000 in
theorem tidy_leaf (k : Nat) (ih : tidyIH k) (A0 : Option Addr) (c0 : Nat) (l0 : List S49) (a1 : Int) (r : List S49) (w : World) (hr0 : Kd.C k49 w A0 l0.length l0) (hc0 : l0.length ≤ c0) (h0 : 0 ≤ a1) (h1 : a1 < (l0.length : Int)) (har : spec_l5Arity.f k (rd_T49 l0 a1).f0 = some 0) (ho : spec_l5Own.f k ((l0.take (a1 + 1).toNat).drop a1.toNat) = some r) :
    Calls Try.prog 68 #[.slice A0 l0.length c0, .int .i64 a1] w fun e w' => ∃ v0_ : Value, e = .returned v0_ ∧ Kd.N k49 49 w' w.heap.size (fun k_ => w.heap.size ≤ k_) v0_ r ∧ Below w.heap.size w w' := by
  have hu49 := Try.underlying49
  have hbig : l0.length ≤ 9223372036854775807 := hr0.2.1
  obtain ⟨ad, As, cs, e0, hx0, hx1, hcs, hrow⟩ := at_T49 hr0 a1 h0 h1
  subst e0
  generalize rd_T49 l0 a1 = el at *
  obtain ⟨op, set⟩ := el
  simp only at *
  have hb0 : Below w.heap.size w (w.alloc (.cells #[.int .i64 op, .slice As set.length cs] 49)) := below_alloc (Below.refl _ _) _
  obtain ⟨W0, hW0⟩ : ∃ W0, W0 = w.alloc (.cells #[.int .i64 op, .slice As set.length cs] 49) := ⟨_, rfl⟩
  rw [← hW0] at hb0
  have hsz : W0.heap.size = w.heap.size + 1 := by rw [hW0]; simp
  have hcell : ∀ W1, Below W0.heap.size W0 W1 → W1.cell? ⟨w.heap.size, 0, none⟩ = some (.int .i64 op) := by
    intro W1 hb
    have g1 : W0.cell? ⟨w.heap.size, 0, none⟩ = some (.int .i64 op) := by rw [hW0]; go_simp
    exact (hb.cell (World.block_lt_of_cell? W0 _ g1)).trans g1
  have HB0 := Aside0.mk hb0
  have HSZ := Aside0.mk (show w.heap.size ≤ W0.heap.size by omega)
  have HCell := Aside0.mk hcell
  have HC := Aside0.mk (fun (W : World) (hb : Below W0.heap.size W0 W) => Kd.C_below hr0 (hb0.trans (hb.mono hb0.size)))
  have HC0 := Aside0.mk hc0
  have IH := Aside0.mk ih
  have HW0 := Aside0.mk hW0
  clear hb0 hcell hr0 hc0 ih hsz hcs hrow
  have HAR := Aside0.mk har
  obtain ⟨i0, hi0, _, hsz0, _⟩ := info_parts info49
  have hcut := cut_mid (P := Try.prog) 25 49 .i64 .i64 Try.underlying25 hi0 2 hsz0 (some ad) l0.length c0 a1 (a1 + 1) h0 (by omega) (by omega) HC0.out
  obtain ⟨A11, hA11⟩ : ∃ A1, A1 = (if c0 = (a1 : Int).toNat then (some ad) else ((some ad) : Option Addr).map (·.add ((a1 : Int).toNat * 2))) := ⟨_, rfl⟩
  obtain ⟨c11, hc11⟩ : ∃ c1, c1 = c0 - (a1 : Int).toNat := ⟨_, rfl⟩
  have hy : ((l0.take (a1 + 1).toNat).drop a1.toNat).length = (a1 + 1).toNat - a1.toNat := by rw [List.length_drop, List.length_take]; omega
  have hcl : ((l0.take (a1 + 1).toNat).drop a1.toNat).length ≤ c11 := by rw [hy, hc11]; have := HC0.out; omega
  rw [← hy, ← hA11, ← hc11] at hcut
  have HOWN := Aside0.mk (fun (W : World) (hb : Below W0.heap.size W0 W) => (spec_l5Own.calls k A11 c11 _ r W (by rw [hA11]; exact Kd.C_mid (lo := (a1 : Int).toNat) (hi := (a1 + 1).toNat) (c := c0) (HC.out W hb) (by omega) (by omega) HC0.out) hcl ho).mono (fun (e : Ending) (w' : World) ⟨v0, he, hn, h⟩ => (⟨v0, he, Kd.N_mono (Kd.N_lower (Kd.S_N (Kd.S_bound hn)) (Nat.le_trans HSZ.out hb.size)) (fun k_ hk => Nat.le_trans HSZ.out (Nat.le_trans hb.size hk.2.1)), HB0.out.trans ((hb.trans (h.mono hb.size)).mono HB0.out.size)⟩ : ∃ v0 : Value, e = Ending.returned v0 ∧ Kd.N k49 49 w' w.heap.size (fun k_ => w.heap.size ≤ k_) v0 r ∧ Below w.heap.size w w')))
  generalize ((l0.take (a1 + 1).toNat).drop a1.toNat) = y at *
  have H0 := Aside0.mk h0
  clear har ho hA11 hc11 hy hcl hi0 hsz0 HC0 IH HC
  subst hW0
  go_enter Try.func68, Try.ntmps68
  go_wp2_with (first | (go_at_call 81; with_reducible refine (spec_l5Arity.calls k op _ _ HAR.out).mono ?_; rintro e w' ⟨rfl, ⟨nd, rfl⟩⟩) | (go_at_call 65; with_reducible refine (HOWN.out _ ?side).mono ?_; (case side => repeat (first | (with_reducible first | exact Below.refl _ _ | apply pw_below_drewN | apply below_drew1 | apply below_alloc))); rintro e w9 ⟨v9, rfl, ho, hb⟩; have HO9 := Aside0.mk ho; have HB9 := Aside0.mk hb; clear ho hb))
  go_ret
  exact ⟨_, rfl, HO9.out, HB9.out⟩
set_option maxHeartbeats 8000000 in
set_option maxRecDepth 100000 in
theorem tidy_two (k : Nat) (ih : tidyIH k) (A0 : Option Addr) (c0 : Nat) (l0 : List S49) (a1 : Int) (fi : Int) (a b r : List S49) (w : World) (hr0 : Kd.C k49 w A0 l0.length l0) (hc0 : l0.length ≤ c0) (h0 : 0 ≤ a1) (h1 : a1 < (l0.length : Int)) (har : spec_l5Arity.f k (rd_T49 l0 a1).f0 = some 2) (hfi : spec_l5First.f k l0 a1 = some fi) (ha : spec_l5Tidy.f k l0 fi = some a) (hb : spec_l5Tidy.f k l0 (a1 - 1) = some b) (ho : spec_l5Two.f k (rd_T49 l0 a1).f0 a b = some r) :
    Calls Try.prog 68 #[.slice A0 l0.length c0, .int .i64 a1] w fun e w' => ∃ v0_ : Value, e = .returned v0_ ∧ Kd.N k49 49 w' w.heap.size (fun k_ => w.heap.size ≤ k_) v0_ r ∧ Below w.heap.size w w' := by
  have hu49 := Try.underlying49
  have hbig : l0.length ≤ 9223372036854775807 := hr0.2.1
  obtain ⟨ad, As, cs, e0, hx0, hx1, hcs, hrow⟩ := at_T49 hr0 a1 h0 h1
  subst e0
  generalize rd_T49 l0 a1 = el at *
  obtain ⟨op, set⟩ := el
  simp only at *
  have hb0 : Below w.heap.size w (w.alloc (.cells #[.int .i64 op, .slice As set.length cs] 49)) := below_alloc (Below.refl _ _) _
  obtain ⟨W0, hW0⟩ : ∃ W0, W0 = w.alloc (.cells #[.int .i64 op, .slice As set.length cs] 49) := ⟨_, rfl⟩
  rw [← hW0] at hb0
  have hsz : W0.heap.size = w.heap.size + 1 := by rw [hW0]; simp
  have hcell : ∀ W1, Below W0.heap.size W0 W1 → W1.cell? ⟨w.heap.size, 0, none⟩ = some (.int .i64 op) := by
    intro W1 hb
    have g1 : W0.cell? ⟨w.heap.size, 0, none⟩ = some (.int .i64 op) := by rw [hW0]; go_simp
    exact (hb.cell (World.block_lt_of_cell? W0 _ g1)).trans g1
  have HB0 := Aside0.mk hb0
  have HSZ := Aside0.mk (show w.heap.size ≤ W0.heap.size by omega)
  have HCell := Aside0.mk hcell
  have HC := Aside0.mk (fun (W : World) (hb : Below W0.heap.size W0 W) => Kd.C_below hr0 (hb0.trans (hb.mono hb0.size)))
  have HC0 := Aside0.mk hc0
  have IH := Aside0.mk ih
  have HW0 := Aside0.mk hW0
  clear hb0 hcell hr0 hc0 ih hsz hcs hrow
  have HAR := Aside0.mk har
  have HFI := Aside0.mk (fun (W : World) (hb : Below W0.heap.size W0 W) => spec_l5First.calls k (some ad) c0 l0 a1 fi W (HC.out W hb) HC0.out hfi)
  have hT : ∀ (x : Int) (xs : List S49), spec_l5Tidy.f k l0 x = some xs → ∀ (W : World), Below W0.heap.size W0 W → Calls Try.prog 68 #[.slice (some ad) l0.length c0, .int .i64 x] W fun e w' => ∃ A c, e = .returned (.slice A xs.length c) ∧ Kd.N k49 49 w' W0.heap.size (fun k_ => W0.heap.size ≤ k_) (.slice A xs.length c) xs ∧ Below W0.heap.size W0 w' ∧ Below W.heap.size W w' := by
    intro x xs hx W hb
    refine (IH.out (some ad) c0 l0 x xs W (HC.out W hb) HC0.out hx).mono ?_
    rintro e w' ⟨v, rfl, hn, h⟩
    obtain ⟨A, c, hv⟩ := Kd.N_slice hn
    subst hv
    exact ⟨A, c, rfl, Kd.N_mono (Kd.N_lower hn hb.size) (fun k_ hk => Nat.le_trans hb.size hk), hb.trans (h.mono hb.size), h⟩
  have HTA := Aside0.mk (hT fi a ha)
  have HTB := Aside0.mk (hT (a1 - 1) b hb)
  have HTW := Aside0.mk (fun (W : World) (A1 A2 : Option Addr) (c1 c2 : Nat) (hb : Below W0.heap.size W0 W) (n1 : Kd.N k49 49 W W0.heap.size (fun k_ => W0.heap.size ≤ k_) (.slice A1 a.length c1) a) (n2 : Kd.N k49 49 W W0.heap.size (fun k_ => W0.heap.size ≤ k_) (.slice A2 b.length c2) b) =>
    (spec_l5Two.calls k op W0.heap.size A1 c1 a A2 c2 b r W hb.size n1 n2 ho).mono (fun (e : Ending) (w' : World) ⟨v0, he, hn, h⟩ => (⟨v0, he, Kd.N_mono (Kd.N_lower hn HSZ.out) (fun k_ hk => Nat.le_trans HSZ.out hk), HB0.out.trans ((hb.trans (h.mono hb.size)).mono HB0.out.size), hb.trans (h.mono hb.size)⟩ : ∃ v0 : Value, e = Ending.returned v0 ∧ Kd.N k49 49 w' w.heap.size (fun k_ => w.heap.size ≤ k_) v0 r ∧ Below w.heap.size w w' ∧ Below W0.heap.size W0 w')))
  have hwr : IntKind.i64.wrap (a1 - 1) = a1 - 1 := by rw [i64_w]; unfold wrap64; omega
  clear har hfi ha hb ho hT HC IH HC0
  have hS : W0.cell? ⟨w.heap.size, 0, none⟩ = some (.int .i64 op) := HCell.out _ (Below.refl _ _)
  have HWS := Aside0.mk hW0
  clear hW0
  go_enter Try.func68, Try.ntmps68
  go_wp2_with (first | (go_at_call 81; with_reducible refine (spec_l5Arity.calls k op _ _ HAR.out).mono ?_; rintro e w' ⟨rfl, ⟨nd, rfl⟩⟩))
  rw [← HWS.out]
  have HB1 := Aside0.mk (Below.refl W0.heap.size W0)
  go_region_held3 (fun w' => w'.cell? ⟨w.heap.size, 0, none⟩ = some (.int .i64 op)) (first | go_keep | exact HCell.out _ (by repeat (first | (with_reducible first | exact Below.refl _ _ | exact Aside0.out (by assumption) | apply pw_below_drewN | apply below_drew1 | apply below_alloc)))) ((first
    | (go_at_call 94; with_reducible refine (HFI.out _ ?side).mono ?_; (case side => repeat (first | (with_reducible first | exact Below.refl _ _ | exact Aside0.out (by assumption) | apply pw_below_drewN | apply below_drew1 | apply below_alloc))); rintro e w' ⟨rfl, ⟨nd2, rfl⟩⟩)
    | (go_at_call 68; with_reducible refine (HTA.out _ ?side).mono ?_; (case side => repeat (first | (with_reducible first | exact Below.refl _ _ | exact Aside0.out (by assumption) | apply pw_below_drewN | apply below_drew1 | apply below_alloc))); rintro e w5 ⟨Aa, ca, rfl, ho, hb, hbs⟩; have HNA := Aside0.mk ho; have HB5 := Aside0.mk hb; clear ho hb hbs)
    | (go_at_call 68; with_reducible refine (HTB.out _ ?side).mono ?_; (case side => repeat (first | (with_reducible first | exact Below.refl _ _ | exact Aside0.out (by assumption) | apply pw_below_drewN | apply below_drew1 | apply below_alloc))); rintro e w6 ⟨Ab, cb, rfl, ho, hb, hbs⟩; have HNB := Aside0.mk ho; have HB6 := Aside0.mk hb; have HNA6 := Aside0.mk (Kd.N_below HNA.out hbs); clear ho hb hbs)
    | (go_at_call 96; with_reducible refine (HTW.out _ _ _ _ _ ?s1 ?s2 ?s3).mono ?_; (case s1 => repeat (first | (with_reducible first | exact Below.refl _ _ | exact Aside0.out (by assumption) | apply pw_below_drewN | apply below_drew1 | apply below_alloc))); (case s2 => exact HNA6.out); (case s3 => exact HNB.out); rintro e w7 ⟨v7, rfl, ho, hb, hb7⟩; have HO7 := Aside0.mk ho; have HB7 := Aside0.mk hb; have HB8 := Aside0.mk hb7; clear ho hb hb7)))
  go_wp2
  go_ret
  exact ⟨_, rfl, HO7.out, HB7.out⟩
set_option maxHeartbeats 8000000 in
set_option maxRecDepth 100000 in
theorem tidy_6a (k : Nat) (ih : tidyIH k) (A0 : Option Addr) (c0 : Nat) (l0 : List S49) (a1 : Int) (ar : Int) (nA : Bool) (a : List S49) (w : World) (hr0 : Kd.C k49 w A0 l0.length l0) (hc0 : l0.length ≤ c0) (h0 : 0 ≤ a1) (h1 : a1 < (l0.length : Int)) (hop : (rd_T49 l0 a1).f0 = 6) (har : spec_l5Arity.f k 6 = some ar) (n0 : ¬ ar = 0) (n2 : ¬ ar = 2) (ha : spec_l5Tidy.f k l0 (a1 - 1) = some a) (hlen : 0 < a.length) (hbnd : a.length < 1099511627776) (hiA : spec_l5IsNil.f a = some true) (hnA : spec_l5IsNone.f a = some nA)  :
    Calls Try.prog 68 #[.slice A0 l0.length c0, .int .i64 a1] w fun e w' => ∃ v0_ : Value, e = .returned v0_ ∧ Kd.N k49 49 w' w.heap.size (fun k_ => w.heap.size ≤ k_) v0_ [⟨1, []⟩] ∧ Below w.heap.size w w' := by
  have hu49 := Try.underlying49
  have hbig : l0.length ≤ 9223372036854775807 := hr0.2.1
  obtain ⟨ad, As, cs, e0, hx0, hx1, hcs, hrow⟩ := at_T49 hr0 a1 h0 h1
  subst e0
  generalize rd_T49 l0 a1 = el at *
  obtain ⟨op, set⟩ := el
  simp only at *
  have hb0 : Below w.heap.size w (w.alloc (.cells #[.int .i64 op, .slice As set.length cs] 49)) := below_alloc (Below.refl _ _) _
  obtain ⟨W0, hW0⟩ : ∃ W0, W0 = w.alloc (.cells #[.int .i64 op, .slice As set.length cs] 49) := ⟨_, rfl⟩
  rw [← hW0] at hb0
  have hsz : W0.heap.size = w.heap.size + 1 := by rw [hW0]; simp
  have hcell : ∀ W1, Below W0.heap.size W0 W1 → W1.cell? ⟨w.heap.size, 0, none⟩ = some (.int .i64 op) := by
    intro W1 hb
    have g1 : W0.cell? ⟨w.heap.size, 0, none⟩ = some (.int .i64 op) := by rw [hW0]; go_simp
    exact (hb.cell (World.block_lt_of_cell? W0 _ g1)).trans g1
  have HB0 := Aside0.mk hb0
  have HSZ := Aside0.mk (show w.heap.size ≤ W0.heap.size by omega)
  have HCell := Aside0.mk hcell
  have HC := Aside0.mk (fun (W : World) (hb : Below W0.heap.size W0 W) => Kd.C_below hr0 (hb0.trans (hb.mono hb0.size)))
  have HC0 := Aside0.mk hc0
  have IH := Aside0.mk ih
  have HW0 := Aside0.mk hW0
  clear hb0 hcell hr0 hc0 ih hsz hcs hrow
  subst hop
  have HAR := Aside0.mk har
  have b0 : (ar == 0) = false := by simpa using n0
  have b2 : (ar == 2) = false := by simpa using n2
  clear n0 n2
  have HT := Aside0.mk (fun (W : World) (hb : Below W0.heap.size W0 W) => (IH.out (some ad) c0 l0 (a1 - 1) a W (HC.out W hb) HC0.out ha).mono (fun (e : Ending) (w' : World) ⟨v, he, hn, h⟩ => (⟨v, he, Kd.N_mono (Kd.N_lower hn (Nat.le_trans HSZ.out hb.size)) (fun k_ hk => Nat.le_trans HSZ.out (Nat.le_trans hb.size hk)), hb.trans (h.mono hb.size)⟩ : ∃ v0 : Value, e = Ending.returned v0 ∧ Kd.N k49 49 w' w.heap.size (fun k_ => w.heap.size ≤ k_) v0 a ∧ Below W0.heap.size W0 w')))
  have HIA0 := Aside0.mk hiA
  have HNA0 := Aside0.mk hnA
  have HLEN := Aside0.mk hlen
  have HBND := Aside0.mk hbnd
  clear har ha hiA hnA HC IH HC0
  have HWS := Aside0.mk hW0
  clear hW0
  go_enter Try.func68, Try.ntmps68
  go_wp2_with (first | (go_at_call 81; with_reducible refine (spec_l5Arity.calls k 6 _ _ HAR.out).mono ?_; rintro e w' ⟨rfl, ⟨nd, rfl⟩⟩))
  rw [← HWS.out]
  refine (HT.out _ (by repeat (first | (with_reducible first | exact Below.refl _ _ | apply pw_below_drewN | apply below_drew1 | apply below_alloc)))).mono ?_
  rintro e w5 ⟨va, rfl, ho, hb⟩
  obtain ⟨Aa, ca, hva⟩ := Kd.N_slice ho
  subst hva
  have hC := (Kd.N_reads' ho).2.2
  have hca := (Kd.N_reads' ho).2.1
  have z0 : (0 : Int) ≤ (a.length : Int) - 1 := by omega
  have z1 : (a.length : Int) - 1 < (a.length : Int) := by omega
  obtain ⟨ad2, Al, cl, ea, hy0, _, _, _⟩ := at_T49 hC ((a.length : Int) - 1) z0 z1
  have z2 : (a.length : Int) - 1 ≤ (ca : Int) := by omega
  subst ea
  rw [show ((a.length : Int) - 1).toNat = a.length - 1 from by omega] at hy0
  have HIA := Aside0.mk (fun (W : World) (h : Below w5.heap.size w5 W) => spec_l5IsNil.calls (some ad2) ca a true W (Kd.C_below hC h) hca HIA0.out)
  have HNA := Aside0.mk (fun (W : World) (h : Below w5.heap.size w5 W) => spec_l5IsNone.calls (some ad2) ca a nA W (Kd.C_below hC h) hca HNA0.out)
  have HN := Aside0.mk ho
  have HB5 := Aside0.mk (HB0.out.trans (hb.mono HB0.out.size))
  have hbox := HCell.out w5 hb
  have HW5 := Aside0.mk (Below.refl w5.heap.size w5)
  generalize (rd_T49 a ((a.length : Int) - 1)).f0 = lo at *
  clear ho hb hC hca
  go_wp2_with (first | (go_at_call 97; with_reducible refine (HIA.out _ ?side).mono ?_; (case side => repeat (first | (with_reducible first | exact Below.refl _ _ | apply pw_below_drewN | apply below_drew1 | apply below_alloc))); rintro e w' ⟨rfl, ⟨nd, rfl⟩⟩) | (go_at_call 98; with_reducible refine (HNA.out _ ?side).mono ?_; (case side => repeat (first | (with_reducible first | exact Below.refl _ _ | apply pw_below_drewN | apply below_drew1 | apply below_alloc))); rintro e w' ⟨rfl, ⟨nd, rfl⟩⟩) | ((with_reducible refine gate_dst (N := 61) rfl ?_); refine Kd.N_lit k49 _ 49 ?hg (N' := 61) ?hd (xs := ([(⟨1, []⟩ : S49)])) (inner := [.int .i64 1, .slice none 0 0]) (ok := (fun k_ => w5.heap.size ≤ k_)) (okp := (fun k_ => w5.heap.size ≤ k_)) ?hr ?hp (fun _ hk => hk) (by first | exact Nat.le_refl _ | exact Below.size (by repeat (first | (with_reducible first | exact Below.refl _ _ | apply pw_below_drewN | apply below_drew1 | apply below_alloc)))) (Below.refl _ _) (Nat.le_refl _) (by simp) ?_; (case hd => rfl); (case hg => rfl); (case hr => first | (go_simp; done) | (go_simp; rfl)); (case hp => exact (Reps.c2 (show Kd.FK k49 _ _ (⟨1, ([] : List Int)⟩ : S49) [.int .i64 1, .slice none 0 0] from (k49_mkF _ _ (⟨1, ([] : List Int)⟩ : S49) (Nat.le_refl _) (Kd.F_nil _ _ _))) (Reps.none _ _))); intro v11 w11 ho hb hg_ hnew_; clear hg_ hnew_; have HB11 := Aside0.mk (show Below w5.heap.size w5 w11 from Below.trans (by repeat (first | (with_reducible first | exact Below.refl _ _ | apply pw_below_drewN | apply below_drew1 | apply below_alloc))) hb); have HO11 := Aside0.mk (show Kd.N k49 49 w11 w5.heap.size (fun k_ => w5.heap.size ≤ k_) v11 [(⟨1, []⟩ : S49)] from Kd.N_lower ho (by first | exact Nat.le_refl _ | exact Below.size (by repeat (first | (with_reducible first | exact Below.refl _ _ | apply pw_below_drewN | apply below_drew1 | apply below_alloc))))); clear ho hb; obtain ⟨A11, c11, eo11⟩ := Kd.N_slice HO11.out; subst eo11))
  go_ret
  exact ⟨_, rfl, Kd.N_mono (Kd.N_lower HO11.out HB5.out.size) (fun k_ hk => Nat.le_trans HB5.out.size hk), HB5.out.trans (HB11.out.mono HB5.out.size)⟩
set_option maxHeartbeats 8000000 in
set_option maxRecDepth 100000 in
theorem tidy_6b (k : Nat) (ih : tidyIH k) (A0 : Option Addr) (c0 : Nat) (l0 : List S49) (a1 : Int) (ar : Int) (a : List S49) (w : World) (hr0 : Kd.C k49 w A0 l0.length l0) (hc0 : l0.length ≤ c0) (h0 : 0 ≤ a1) (h1 : a1 < (l0.length : Int)) (hop : (rd_T49 l0 a1).f0 = 6) (har : spec_l5Arity.f k 6 = some ar) (n0 : ¬ ar = 0) (n2 : ¬ ar = 2) (ha : spec_l5Tidy.f k l0 (a1 - 1) = some a) (hlen : 0 < a.length) (hbnd : a.length < 1099511627776) (hiA : spec_l5IsNil.f a = some false) (hnA : spec_l5IsNone.f a = some true)  :
    Calls Try.prog 68 #[.slice A0 l0.length c0, .int .i64 a1] w fun e w' => ∃ v0_ : Value, e = .returned v0_ ∧ Kd.N k49 49 w' w.heap.size (fun k_ => w.heap.size ≤ k_) v0_ [⟨1, []⟩] ∧ Below w.heap.size w w' := by
  have hu49 := Try.underlying49
  have hbig : l0.length ≤ 9223372036854775807 := hr0.2.1
  obtain ⟨ad, As, cs, e0, hx0, hx1, hcs, hrow⟩ := at_T49 hr0 a1 h0 h1
  subst e0
  generalize rd_T49 l0 a1 = el at *
  obtain ⟨op, set⟩ := el
  simp only at *
  have hb0 : Below w.heap.size w (w.alloc (.cells #[.int .i64 op, .slice As set.length cs] 49)) := below_alloc (Below.refl _ _) _
  obtain ⟨W0, hW0⟩ : ∃ W0, W0 = w.alloc (.cells #[.int .i64 op, .slice As set.length cs] 49) := ⟨_, rfl⟩
  rw [← hW0] at hb0
  have hsz : W0.heap.size = w.heap.size + 1 := by rw [hW0]; simp
  have hcell : ∀ W1, Below W0.heap.size W0 W1 → W1.cell? ⟨w.heap.size, 0, none⟩ = some (.int .i64 op) := by
    intro W1 hb
    have g1 : W0.cell? ⟨w.heap.size, 0, none⟩ = some (.int .i64 op) := by rw [hW0]; go_simp
    exact (hb.cell (World.block_lt_of_cell? W0 _ g1)).trans g1
  have HB0 := Aside0.mk hb0
  have HSZ := Aside0.mk (show w.heap.size ≤ W0.heap.size by omega)
  have HCell := Aside0.mk hcell
  have HC := Aside0.mk (fun (W : World) (hb : Below W0.heap.size W0 W) => Kd.C_below hr0 (hb0.trans (hb.mono hb0.size)))
  have HC0 := Aside0.mk hc0
  have IH := Aside0.mk ih
  have HW0 := Aside0.mk hW0
  clear hb0 hcell hr0 hc0 ih hsz hcs hrow
  subst hop
  have HAR := Aside0.mk har
  have b0 : (ar == 0) = false := by simpa using n0
  have b2 : (ar == 2) = false := by simpa using n2
  clear n0 n2
  have HT := Aside0.mk (fun (W : World) (hb : Below W0.heap.size W0 W) => (IH.out (some ad) c0 l0 (a1 - 1) a W (HC.out W hb) HC0.out ha).mono (fun (e : Ending) (w' : World) ⟨v, he, hn, h⟩ => (⟨v, he, Kd.N_mono (Kd.N_lower hn (Nat.le_trans HSZ.out hb.size)) (fun k_ hk => Nat.le_trans HSZ.out (Nat.le_trans hb.size hk)), hb.trans (h.mono hb.size)⟩ : ∃ v0 : Value, e = Ending.returned v0 ∧ Kd.N k49 49 w' w.heap.size (fun k_ => w.heap.size ≤ k_) v0 a ∧ Below W0.heap.size W0 w')))
  have HIA0 := Aside0.mk hiA
  have HNA0 := Aside0.mk hnA
  have HLEN := Aside0.mk hlen
  have HBND := Aside0.mk hbnd
  clear har ha hiA hnA HC IH HC0
  have HWS := Aside0.mk hW0
  clear hW0
  go_enter Try.func68, Try.ntmps68
  go_wp2_with (first | (go_at_call 81; with_reducible refine (spec_l5Arity.calls k 6 _ _ HAR.out).mono ?_; rintro e w' ⟨rfl, ⟨nd, rfl⟩⟩))
  rw [← HWS.out]
  refine (HT.out _ (by repeat (first | (with_reducible first | exact Below.refl _ _ | apply pw_below_drewN | apply below_drew1 | apply below_alloc)))).mono ?_
  rintro e w5 ⟨va, rfl, ho, hb⟩
  obtain ⟨Aa, ca, hva⟩ := Kd.N_slice ho
  subst hva
  have hC := (Kd.N_reads' ho).2.2
  have hca := (Kd.N_reads' ho).2.1
  have z0 : (0 : Int) ≤ (a.length : Int) - 1 := by omega
  have z1 : (a.length : Int) - 1 < (a.length : Int) := by omega
  obtain ⟨ad2, Al, cl, ea, hy0, _, _, _⟩ := at_T49 hC ((a.length : Int) - 1) z0 z1
  have z2 : (a.length : Int) - 1 ≤ (ca : Int) := by omega
  subst ea
  rw [show ((a.length : Int) - 1).toNat = a.length - 1 from by omega] at hy0
  have HIA := Aside0.mk (fun (W : World) (h : Below w5.heap.size w5 W) => spec_l5IsNil.calls (some ad2) ca a false W (Kd.C_below hC h) hca HIA0.out)
  have HNA := Aside0.mk (fun (W : World) (h : Below w5.heap.size w5 W) => spec_l5IsNone.calls (some ad2) ca a true W (Kd.C_below hC h) hca HNA0.out)
  have HN := Aside0.mk ho
  have HB5 := Aside0.mk (HB0.out.trans (hb.mono HB0.out.size))
  have hbox := HCell.out w5 hb
  have HW5 := Aside0.mk (Below.refl w5.heap.size w5)
  generalize (rd_T49 a ((a.length : Int) - 1)).f0 = lo at *
  clear ho hb hC hca
  go_wp2_with (first | (go_at_call 97; with_reducible refine (HIA.out _ ?side).mono ?_; (case side => repeat (first | (with_reducible first | exact Below.refl _ _ | apply pw_below_drewN | apply below_drew1 | apply below_alloc))); rintro e w' ⟨rfl, ⟨nd, rfl⟩⟩) | (go_at_call 98; with_reducible refine (HNA.out _ ?side).mono ?_; (case side => repeat (first | (with_reducible first | exact Below.refl _ _ | apply pw_below_drewN | apply below_drew1 | apply below_alloc))); rintro e w' ⟨rfl, ⟨nd, rfl⟩⟩) | ((with_reducible refine gate_dst (N := 61) rfl ?_); refine Kd.N_lit k49 _ 49 ?hg (N' := 61) ?hd (xs := ([(⟨1, []⟩ : S49)])) (inner := [.int .i64 1, .slice none 0 0]) (ok := (fun k_ => w5.heap.size ≤ k_)) (okp := (fun k_ => w5.heap.size ≤ k_)) ?hr ?hp (fun _ hk => hk) (by first | exact Nat.le_refl _ | exact Below.size (by repeat (first | (with_reducible first | exact Below.refl _ _ | apply pw_below_drewN | apply below_drew1 | apply below_alloc)))) (Below.refl _ _) (Nat.le_refl _) (by simp) ?_; (case hd => rfl); (case hg => rfl); (case hr => first | (go_simp; done) | (go_simp; rfl)); (case hp => exact (Reps.c2 (show Kd.FK k49 _ _ (⟨1, ([] : List Int)⟩ : S49) [.int .i64 1, .slice none 0 0] from (k49_mkF _ _ (⟨1, ([] : List Int)⟩ : S49) (Nat.le_refl _) (Kd.F_nil _ _ _))) (Reps.none _ _))); intro v11 w11 ho hb hg_ hnew_; clear hg_ hnew_; have HB11 := Aside0.mk (show Below w5.heap.size w5 w11 from Below.trans (by repeat (first | (with_reducible first | exact Below.refl _ _ | apply pw_below_drewN | apply below_drew1 | apply below_alloc))) hb); have HO11 := Aside0.mk (show Kd.N k49 49 w11 w5.heap.size (fun k_ => w5.heap.size ≤ k_) v11 [(⟨1, []⟩ : S49)] from Kd.N_lower ho (by first | exact Nat.le_refl _ | exact Below.size (by repeat (first | (with_reducible first | exact Below.refl _ _ | apply pw_below_drewN | apply below_drew1 | apply below_alloc))))); clear ho hb; obtain ⟨A11, c11, eo11⟩ := Kd.N_slice HO11.out; subst eo11))
  go_ret
  exact ⟨_, rfl, Kd.N_mono (Kd.N_lower HO11.out HB5.out.size) (fun k_ hk => Nat.le_trans HB5.out.size hk), HB5.out.trans (HB11.out.mono HB5.out.size)⟩
set_option maxHeartbeats 8000000 in
set_option maxRecDepth 100000 in
theorem tidy_6c (k : Nat) (ih : tidyIH k) (A0 : Option Addr) (c0 : Nat) (l0 : List S49) (a1 : Int) (ar : Int) (a : List S49) (w : World) (hr0 : Kd.C k49 w A0 l0.length l0) (hc0 : l0.length ≤ c0) (h0 : 0 ≤ a1) (h1 : a1 < (l0.length : Int)) (hop : (rd_T49 l0 a1).f0 = 6) (har : spec_l5Arity.f k 6 = some ar) (n0 : ¬ ar = 0) (n2 : ¬ ar = 2) (ha : spec_l5Tidy.f k l0 (a1 - 1) = some a) (hlen : 0 < a.length) (hbnd : a.length < 1099511627776) (hiA : spec_l5IsNil.f a = some false) (hnA : spec_l5IsNone.f a = some false) (hla : lastO a = 6) :
    Calls Try.prog 68 #[.slice A0 l0.length c0, .int .i64 a1] w fun e w' => ∃ v0_ : Value, e = .returned v0_ ∧ Kd.N k49 49 w' w.heap.size (fun k_ => w.heap.size ≤ k_) v0_ a ∧ Below w.heap.size w w' := by
  have hu49 := Try.underlying49
  have hbig : l0.length ≤ 9223372036854775807 := hr0.2.1
  obtain ⟨ad, As, cs, e0, hx0, hx1, hcs, hrow⟩ := at_T49 hr0 a1 h0 h1
  subst e0
  generalize rd_T49 l0 a1 = el at *
  obtain ⟨op, set⟩ := el
  simp only at *
  have hb0 : Below w.heap.size w (w.alloc (.cells #[.int .i64 op, .slice As set.length cs] 49)) := below_alloc (Below.refl _ _) _
  obtain ⟨W0, hW0⟩ : ∃ W0, W0 = w.alloc (.cells #[.int .i64 op, .slice As set.length cs] 49) := ⟨_, rfl⟩
  rw [← hW0] at hb0
  have hsz : W0.heap.size = w.heap.size + 1 := by rw [hW0]; simp
  have hcell : ∀ W1, Below W0.heap.size W0 W1 → W1.cell? ⟨w.heap.size, 0, none⟩ = some (.int .i64 op) := by
    intro W1 hb
    have g1 : W0.cell? ⟨w.heap.size, 0, none⟩ = some (.int .i64 op) := by rw [hW0]; go_simp
    exact (hb.cell (World.block_lt_of_cell? W0 _ g1)).trans g1
  have HB0 := Aside0.mk hb0
  have HSZ := Aside0.mk (show w.heap.size ≤ W0.heap.size by omega)
  have HCell := Aside0.mk hcell
  have HC := Aside0.mk (fun (W : World) (hb : Below W0.heap.size W0 W) => Kd.C_below hr0 (hb0.trans (hb.mono hb0.size)))
  have HC0 := Aside0.mk hc0
  have IH := Aside0.mk ih
  have HW0 := Aside0.mk hW0
  clear hb0 hcell hr0 hc0 ih hsz hcs hrow
  subst hop
  have HAR := Aside0.mk har
  have b0 : (ar == 0) = false := by simpa using n0
  have b2 : (ar == 2) = false := by simpa using n2
  clear n0 n2
  have HT := Aside0.mk (fun (W : World) (hb : Below W0.heap.size W0 W) => (IH.out (some ad) c0 l0 (a1 - 1) a W (HC.out W hb) HC0.out ha).mono (fun (e : Ending) (w' : World) ⟨v, he, hn, h⟩ => (⟨v, he, Kd.N_mono (Kd.N_lower hn (Nat.le_trans HSZ.out hb.size)) (fun k_ hk => Nat.le_trans HSZ.out (Nat.le_trans hb.size hk)), hb.trans (h.mono hb.size)⟩ : ∃ v0 : Value, e = Ending.returned v0 ∧ Kd.N k49 49 w' w.heap.size (fun k_ => w.heap.size ≤ k_) v0 a ∧ Below W0.heap.size W0 w')))
  have HIA0 := Aside0.mk hiA
  have HNA0 := Aside0.mk hnA
  have HLEN := Aside0.mk hlen
  have HBND := Aside0.mk hbnd
  clear har ha hiA hnA HC IH HC0
  have HWS := Aside0.mk hW0
  clear hW0
  go_enter Try.func68, Try.ntmps68
  go_wp2_with (first | (go_at_call 81; with_reducible refine (spec_l5Arity.calls k 6 _ _ HAR.out).mono ?_; rintro e w' ⟨rfl, ⟨nd, rfl⟩⟩))
  rw [← HWS.out]
  refine (HT.out _ (by repeat (first | (with_reducible first | exact Below.refl _ _ | apply pw_below_drewN | apply below_drew1 | apply below_alloc)))).mono ?_
  rintro e w5 ⟨va, rfl, ho, hb⟩
  obtain ⟨Aa, ca, hva⟩ := Kd.N_slice ho
  subst hva
  have hC := (Kd.N_reads' ho).2.2
  have hca := (Kd.N_reads' ho).2.1
  have z0 : (0 : Int) ≤ (a.length : Int) - 1 := by omega
  have z1 : (a.length : Int) - 1 < (a.length : Int) := by omega
  obtain ⟨ad2, Al, cl, ea, hy0, _, _, _⟩ := at_T49 hC ((a.length : Int) - 1) z0 z1
  have z2 : (a.length : Int) - 1 ≤ (ca : Int) := by omega
  subst ea
  rw [show ((a.length : Int) - 1).toNat = a.length - 1 from by omega] at hy0
  have HIA := Aside0.mk (fun (W : World) (h : Below w5.heap.size w5 W) => spec_l5IsNil.calls (some ad2) ca a false W (Kd.C_below hC h) hca HIA0.out)
  have HNA := Aside0.mk (fun (W : World) (h : Below w5.heap.size w5 W) => spec_l5IsNone.calls (some ad2) ca a false W (Kd.C_below hC h) hca HNA0.out)
  have HN := Aside0.mk ho
  have HB5 := Aside0.mk (HB0.out.trans (hb.mono HB0.out.size))
  have hbox := HCell.out w5 hb
  have HW5 := Aside0.mk (Below.refl w5.heap.size w5)
  have hlb : ((rd_T49 a ((a.length : Int) - 1)).f0 == 6) = true := by simpa [lastO] using hla
  generalize (rd_T49 a ((a.length : Int) - 1)).f0 = lo at *
  clear ho hb hC hca
  go_wp2_with (first | (go_at_call 97; with_reducible refine (HIA.out _ ?side).mono ?_; (case side => repeat (first | (with_reducible first | exact Below.refl _ _ | apply pw_below_drewN | apply below_drew1 | apply below_alloc))); rintro e w' ⟨rfl, ⟨nd, rfl⟩⟩) | (go_at_call 98; with_reducible refine (HNA.out _ ?side).mono ?_; (case side => repeat (first | (with_reducible first | exact Below.refl _ _ | apply pw_below_drewN | apply below_drew1 | apply below_alloc))); rintro e w' ⟨rfl, ⟨nd, rfl⟩⟩))
  go_ret
  exact ⟨_, rfl, Kd.N_below HN.out (by repeat (first | (with_reducible first | exact Below.refl _ _ | apply pw_below_drewN | apply below_drew1 | apply below_alloc))), HB5.out.trans (Below.mono (by repeat (first | (with_reducible first | exact Below.refl _ _ | apply pw_below_drewN | apply below_drew1 | apply below_alloc))) HB5.out.size)⟩
set_option maxHeartbeats 8000000 in
set_option maxRecDepth 100000 in
theorem tidy_6d (k : Nat) (ih : tidyIH k) (A0 : Option Addr) (c0 : Nat) (l0 : List S49) (a1 : Int) (ar : Int) (a : List S49) (w : World) (hr0 : Kd.C k49 w A0 l0.length l0) (hc0 : l0.length ≤ c0) (h0 : 0 ≤ a1) (h1 : a1 < (l0.length : Int)) (hop : (rd_T49 l0 a1).f0 = 6) (har : spec_l5Arity.f k 6 = some ar) (n0 : ¬ ar = 0) (n2 : ¬ ar = 2) (ha : spec_l5Tidy.f k l0 (a1 - 1) = some a) (hlen : 0 < a.length) (hbnd : a.length < 1099511627776) (hiA : spec_l5IsNil.f a = some false) (hnA : spec_l5IsNone.f a = some false) (hla : lastO a ≠ 6) :
    Calls Try.prog 68 #[.slice A0 l0.length c0, .int .i64 a1] w fun e w' => ∃ v0_ : Value, e = .returned v0_ ∧ Kd.N k49 49 w' w.heap.size (fun k_ => w.heap.size ≤ k_) v0_ (a ++ [⟨6, []⟩]) ∧ Below w.heap.size w w' := by
  have hu49 := Try.underlying49
  have hbig : l0.length ≤ 9223372036854775807 := hr0.2.1
  obtain ⟨ad, As, cs, e0, hx0, hx1, hcs, hrow⟩ := at_T49 hr0 a1 h0 h1
  subst e0
  generalize rd_T49 l0 a1 = el at *
  obtain ⟨op, set⟩ := el
  simp only at *
  have hb0 : Below w.heap.size w (w.alloc (.cells #[.int .i64 op, .slice As set.length cs] 49)) := below_alloc (Below.refl _ _) _
  obtain ⟨W0, hW0⟩ : ∃ W0, W0 = w.alloc (.cells #[.int .i64 op, .slice As set.length cs] 49) := ⟨_, rfl⟩
  rw [← hW0] at hb0
  have hsz : W0.heap.size = w.heap.size + 1 := by rw [hW0]; simp
  have hcell : ∀ W1, Below W0.heap.size W0 W1 → W1.cell? ⟨w.heap.size, 0, none⟩ = some (.int .i64 op) := by
    intro W1 hb
    have g1 : W0.cell? ⟨w.heap.size, 0, none⟩ = some (.int .i64 op) := by rw [hW0]; go_simp
    exact (hb.cell (World.block_lt_of_cell? W0 _ g1)).trans g1
  have HB0 := Aside0.mk hb0
  have HSZ := Aside0.mk (show w.heap.size ≤ W0.heap.size by omega)
  have HCell := Aside0.mk hcell
  have HC := Aside0.mk (fun (W : World) (hb : Below W0.heap.size W0 W) => Kd.C_below hr0 (hb0.trans (hb.mono hb0.size)))
  have HC0 := Aside0.mk hc0
  have IH := Aside0.mk ih
  have HW0 := Aside0.mk hW0
  clear hb0 hcell hr0 hc0 ih hsz hcs hrow
  subst hop
  have HAR := Aside0.mk har
  have b0 : (ar == 0) = false := by simpa using n0
  have b2 : (ar == 2) = false := by simpa using n2
  clear n0 n2
  have HT := Aside0.mk (fun (W : World) (hb : Below W0.heap.size W0 W) => (IH.out (some ad) c0 l0 (a1 - 1) a W (HC.out W hb) HC0.out ha).mono (fun (e : Ending) (w' : World) ⟨v, he, hn, h⟩ => (⟨v, he, Kd.N_mono (Kd.N_lower hn (Nat.le_trans HSZ.out hb.size)) (fun k_ hk => Nat.le_trans HSZ.out (Nat.le_trans hb.size hk)), hb.trans (h.mono hb.size)⟩ : ∃ v0 : Value, e = Ending.returned v0 ∧ Kd.N k49 49 w' w.heap.size (fun k_ => w.heap.size ≤ k_) v0 a ∧ Below W0.heap.size W0 w')))
  have HIA0 := Aside0.mk hiA
  have HNA0 := Aside0.mk hnA
  have HLEN := Aside0.mk hlen
  have HBND := Aside0.mk hbnd
  clear har ha hiA hnA HC IH HC0
  have HWS := Aside0.mk hW0
  clear hW0
  go_enter Try.func68, Try.ntmps68
  go_wp2_with (first | (go_at_call 81; with_reducible refine (spec_l5Arity.calls k 6 _ _ HAR.out).mono ?_; rintro e w' ⟨rfl, ⟨nd, rfl⟩⟩))
  rw [← HWS.out]
  refine (HT.out _ (by repeat (first | (with_reducible first | exact Below.refl _ _ | apply pw_below_drewN | apply below_drew1 | apply below_alloc)))).mono ?_
  rintro e w5 ⟨va, rfl, ho, hb⟩
  obtain ⟨Aa, ca, hva⟩ := Kd.N_slice ho
  subst hva
  have hC := (Kd.N_reads' ho).2.2
  have hca := (Kd.N_reads' ho).2.1
  have z0 : (0 : Int) ≤ (a.length : Int) - 1 := by omega
  have z1 : (a.length : Int) - 1 < (a.length : Int) := by omega
  obtain ⟨ad2, Al, cl, ea, hy0, _, _, _⟩ := at_T49 hC ((a.length : Int) - 1) z0 z1
  have z2 : (a.length : Int) - 1 ≤ (ca : Int) := by omega
  subst ea
  rw [show ((a.length : Int) - 1).toNat = a.length - 1 from by omega] at hy0
  have HIA := Aside0.mk (fun (W : World) (h : Below w5.heap.size w5 W) => spec_l5IsNil.calls (some ad2) ca a false W (Kd.C_below hC h) hca HIA0.out)
  have HNA := Aside0.mk (fun (W : World) (h : Below w5.heap.size w5 W) => spec_l5IsNone.calls (some ad2) ca a false W (Kd.C_below hC h) hca HNA0.out)
  have HN := Aside0.mk ho
  have HB5 := Aside0.mk (HB0.out.trans (hb.mono HB0.out.size))
  have hbox := HCell.out w5 hb
  have HW5 := Aside0.mk (Below.refl w5.heap.size w5)
  have hlb : ((rd_T49 a ((a.length : Int) - 1)).f0 == 6) = false := by simpa [lastO] using hla
  generalize (rd_T49 a ((a.length : Int) - 1)).f0 = lo at *
  clear ho hb hC hca
  go_wp2_with (first | (go_at_call 97; with_reducible refine (HIA.out _ ?side).mono ?_; (case side => repeat (first | (with_reducible first | exact Below.refl _ _ | apply pw_below_drewN | apply below_drew1 | apply below_alloc))); rintro e w' ⟨rfl, ⟨nd, rfl⟩⟩) | (go_at_call 98; with_reducible refine (HNA.out _ ?side).mono ?_; (case side => repeat (first | (with_reducible first | exact Below.refl _ _ | apply pw_below_drewN | apply below_drew1 | apply below_alloc))); rintro e w' ⟨rfl, ⟨nd, rfl⟩⟩) | ((with_reducible refine gate_dst (N := 88) rfl ?_); refine Kd.N_lit k49 _ 49 ?hg (N' := 88) ?hd (xs := ([(⟨6, []⟩ : S49)])) (inner := [.int .i64 6, .slice none 0 0]) (ok := (fun k_ => w5.heap.size ≤ k_)) (okp := (fun k_ => w5.heap.size ≤ k_)) ?hr ?hp (fun _ hk => hk) (by first | exact Nat.le_refl _ | exact Below.size (by repeat (first | (with_reducible first | exact Below.refl _ _ | apply pw_below_drewN | apply below_drew1 | apply below_alloc)))) (Below.refl _ _) (Nat.le_refl _) (by simp) ?_; (case hd => rfl); (case hg => rfl); (case hr => first | (go_simp; done) | (go_simp; rfl)); (case hp => exact (Reps.c2 (show Kd.FK k49 _ _ (⟨6, ([] : List Int)⟩ : S49) [.int .i64 6, .slice none 0 0] from (k49_mkF _ _ (⟨6, ([] : List Int)⟩ : S49) (Nat.le_refl _) (Kd.F_nil _ _ _))) (Reps.none _ _))); intro v11 w11 ho hb hg_ hnew_; clear hg_ hnew_; have HB11 := Aside0.mk (show Below w5.heap.size w5 w11 from Below.trans (by repeat (first | (with_reducible first | exact Below.refl _ _ | apply pw_below_drewN | apply below_drew1 | apply below_alloc))) hb); have HO11 := Aside0.mk (show Kd.N k49 49 w11 w5.heap.size (fun k_ => w5.heap.size ≤ k_) v11 [(⟨6, []⟩ : S49)] from Kd.N_lower ho (by first | exact Nat.le_refl _ | exact Below.size (by repeat (first | (with_reducible first | exact Below.refl _ _ | apply pw_below_drewN | apply below_drew1 | apply below_alloc))))); clear ho hb; obtain ⟨A11, c11, eo11⟩ := Kd.N_slice HO11.out; subst eo11) | ((with_reducible refine gate_builtin (b := .append) (xs := #[.tmp 84, .tmp 88]) rfl ?_); at_builtin; refine Kd.N_append_rows k49 (w0 := w) w.heap.size rfl (.tmp 84) (.tmp 88) 25 49 (.agg #[(.int .i64 0), (.slice none 0 0)]) 32 rfl Try.underlying25 info49 rfl (by decide) (by decide) (.slice (some ad2) a.length ca) a [(⟨6, []⟩ : S49)] _ _ _ (fun k_ => w.heap.size ≤ k_) (fun k_ => w5.heap.size ≤ k_) rfl rfl (Kd.N_below HN.out HB11.out) (Kd.N_F HO11.out) (fun k_ hk => ⟨Nat.le_trans HB5.out.size hk, fun e => Nat.not_lt.2 hk (Kd.N_lt HN.out k_ e.symm)⟩) (fun k_ hk => Nat.le_trans HB5.out.size (Nat.le_trans HB11.out.size hk)) (HB5.out.trans (HB11.out.mono HB5.out.size)) (Nat.le_trans HB5.out.size HB11.out.size) (by have := HBND.out; simp only [List.length_singleton]; omega) ?_; intro v12 w12 ho hb hg hat; clear hg hat; have HO12 := Aside0.mk ho; have HB12 := Aside0.mk hb; clear ho hb))
  go_ret
  exact ⟨_, rfl, HO12.out, HB12.out⟩
set_option maxHeartbeats 8000000 in
set_option maxRecDepth 100000 in
theorem tidy_7a (k : Nat) (ih : tidyIH k) (A0 : Option Addr) (c0 : Nat) (l0 : List S49) (a1 : Int) (ar : Int) (iA nA : Bool) (a : List S49) (w : World) (hr0 : Kd.C k49 w A0 l0.length l0) (hc0 : l0.length ≤ c0) (h0 : 0 ≤ a1) (h1 : a1 < (l0.length : Int)) (hop : (rd_T49 l0 a1).f0 = 7) (har : spec_l5Arity.f k 7 = some ar) (n0 : ¬ ar = 0) (n2 : ¬ ar = 2) (ha : spec_l5Tidy.f k l0 (a1 - 1) = some a) (hlen : 0 < a.length) (hbnd : a.length < 1099511627776) (hiA : spec_l5IsNil.f a = some iA) (hnA : spec_l5IsNone.f a = some nA) (hla : lastO a = 7) :
    Calls Try.prog 68 #[.slice A0 l0.length c0, .int .i64 a1] w fun e w' => ∃ v0_ : Value, e = .returned v0_ ∧ Kd.N k49 49 w' w.heap.size (fun k_ => w.heap.size ≤ k_) v0_ (a.take (a.length - 1)) ∧ Below w.heap.size w w' := by
  have hu49 := Try.underlying49
  have hbig : l0.length ≤ 9223372036854775807 := hr0.2.1
  obtain ⟨ad, As, cs, e0, hx0, hx1, hcs, hrow⟩ := at_T49 hr0 a1 h0 h1
  subst e0
  generalize rd_T49 l0 a1 = el at *
  obtain ⟨op, set⟩ := el
  simp only at *
  have hb0 : Below w.heap.size w (w.alloc (.cells #[.int .i64 op, .slice As set.length cs] 49)) := below_alloc (Below.refl _ _) _
  obtain ⟨W0, hW0⟩ : ∃ W0, W0 = w.alloc (.cells #[.int .i64 op, .slice As set.length cs] 49) := ⟨_, rfl⟩
  rw [← hW0] at hb0
  have hsz : W0.heap.size = w.heap.size + 1 := by rw [hW0]; simp
  have hcell : ∀ W1, Below W0.heap.size W0 W1 → W1.cell? ⟨w.heap.size, 0, none⟩ = some (.int .i64 op) := by
    intro W1 hb
    have g1 : W0.cell? ⟨w.heap.size, 0, none⟩ = some (.int .i64 op) := by rw [hW0]; go_simp
    exact (hb.cell (World.block_lt_of_cell? W0 _ g1)).trans g1
  have HB0 := Aside0.mk hb0
  have HSZ := Aside0.mk (show w.heap.size ≤ W0.heap.size by omega)
  have HCell := Aside0.mk hcell
  have HC := Aside0.mk (fun (W : World) (hb : Below W0.heap.size W0 W) => Kd.C_below hr0 (hb0.trans (hb.mono hb0.size)))
  have HC0 := Aside0.mk hc0
  have IH := Aside0.mk ih
  have HW0 := Aside0.mk hW0
  clear hb0 hcell hr0 hc0 ih hsz hcs hrow
  subst hop
  have HAR := Aside0.mk har
  have b0 : (ar == 0) = false := by simpa using n0
  have b2 : (ar == 2) = false := by simpa using n2
  clear n0 n2
  have HT := Aside0.mk (fun (W : World) (hb : Below W0.heap.size W0 W) => (IH.out (some ad) c0 l0 (a1 - 1) a W (HC.out W hb) HC0.out ha).mono (fun (e : Ending) (w' : World) ⟨v, he, hn, h⟩ => (⟨v, he, Kd.N_mono (Kd.N_lower hn (Nat.le_trans HSZ.out hb.size)) (fun k_ hk => Nat.le_trans HSZ.out (Nat.le_trans hb.size hk)), hb.trans (h.mono hb.size)⟩ : ∃ v0 : Value, e = Ending.returned v0 ∧ Kd.N k49 49 w' w.heap.size (fun k_ => w.heap.size ≤ k_) v0 a ∧ Below W0.heap.size W0 w')))
  have HIA0 := Aside0.mk hiA
  have HNA0 := Aside0.mk hnA
  have HLEN := Aside0.mk hlen
  have HBND := Aside0.mk hbnd
  clear har ha hiA hnA HC IH HC0
  have HWS := Aside0.mk hW0
  clear hW0
  go_enter Try.func68, Try.ntmps68
  go_wp2_with (first | (go_at_call 81; with_reducible refine (spec_l5Arity.calls k 7 _ _ HAR.out).mono ?_; rintro e w' ⟨rfl, ⟨nd, rfl⟩⟩))
  rw [← HWS.out]
  refine (HT.out _ (by repeat (first | (with_reducible first | exact Below.refl _ _ | apply pw_below_drewN | apply below_drew1 | apply below_alloc)))).mono ?_
  rintro e w5 ⟨va, rfl, ho, hb⟩
  obtain ⟨Aa, ca, hva⟩ := Kd.N_slice ho
  subst hva
  have hC := (Kd.N_reads' ho).2.2
  have hca := (Kd.N_reads' ho).2.1
  have z0 : (0 : Int) ≤ (a.length : Int) - 1 := by omega
  have z1 : (a.length : Int) - 1 < (a.length : Int) := by omega
  obtain ⟨ad2, Al, cl, ea, hy0, _, _, _⟩ := at_T49 hC ((a.length : Int) - 1) z0 z1
  have z2 : (a.length : Int) - 1 ≤ (ca : Int) := by omega
  subst ea
  rw [show ((a.length : Int) - 1).toNat = a.length - 1 from by omega] at hy0
  have HIA := Aside0.mk (fun (W : World) (h : Below w5.heap.size w5 W) => spec_l5IsNil.calls (some ad2) ca a iA W (Kd.C_below hC h) hca HIA0.out)
  have HNA := Aside0.mk (fun (W : World) (h : Below w5.heap.size w5 W) => spec_l5IsNone.calls (some ad2) ca a nA W (Kd.C_below hC h) hca HNA0.out)
  have HN := Aside0.mk ho
  have HB5 := Aside0.mk (HB0.out.trans (hb.mono HB0.out.size))
  have hbox := HCell.out w5 hb
  have HW5 := Aside0.mk (Below.refl w5.heap.size w5)
  have hlb : ((rd_T49 a ((a.length : Int) - 1)).f0 == 7) = true := by simpa [lastO] using hla
  generalize (rd_T49 a ((a.length : Int) - 1)).f0 = lo at *
  clear ho hb hC hca
  go_wp2_with (first | (go_at_call 97; with_reducible refine (HIA.out _ ?side).mono ?_; (case side => repeat (first | (with_reducible first | exact Below.refl _ _ | apply pw_below_drewN | apply below_drew1 | apply below_alloc))); rintro e w' ⟨rfl, ⟨nd, rfl⟩⟩) | (go_at_call 98; with_reducible refine (HNA.out _ ?side).mono ?_; (case side => repeat (first | (with_reducible first | exact Below.refl _ _ | apply pw_below_drewN | apply below_drew1 | apply below_alloc))); rintro e w' ⟨rfl, ⟨nd, rfl⟩⟩))
  go_ret
  exact ⟨_, rfl, Kd.N_take (Kd.N_below HN.out (by repeat (first | (with_reducible first | exact Below.refl _ _ | apply pw_below_drewN | apply below_drew1 | apply below_alloc)))) (by omega), HB5.out.trans (Below.mono (by repeat (first | (with_reducible first | exact Below.refl _ _ | apply pw_below_drewN | apply below_drew1 | apply below_alloc))) HB5.out.size)⟩
set_option maxHeartbeats 8000000 in
set_option maxRecDepth 100000 in
theorem tidy_7b (k : Nat) (ih : tidyIH k) (A0 : Option Addr) (c0 : Nat) (l0 : List S49) (a1 : Int) (ar : Int) (iA nA : Bool) (a : List S49) (w : World) (hr0 : Kd.C k49 w A0 l0.length l0) (hc0 : l0.length ≤ c0) (h0 : 0 ≤ a1) (h1 : a1 < (l0.length : Int)) (hop : (rd_T49 l0 a1).f0 = 7) (har : spec_l5Arity.f k 7 = some ar) (n0 : ¬ ar = 0) (n2 : ¬ ar = 2) (ha : spec_l5Tidy.f k l0 (a1 - 1) = some a) (hlen : 0 < a.length) (hbnd : a.length < 1099511627776) (hiA : spec_l5IsNil.f a = some iA) (hnA : spec_l5IsNone.f a = some nA) (hla : lastO a ≠ 7) :
    Calls Try.prog 68 #[.slice A0 l0.length c0, .int .i64 a1] w fun e w' => ∃ v0_ : Value, e = .returned v0_ ∧ Kd.N k49 49 w' w.heap.size (fun k_ => w.heap.size ≤ k_) v0_ (a ++ [⟨7, []⟩]) ∧ Below w.heap.size w w' := by
  have hu49 := Try.underlying49
  have hbig : l0.length ≤ 9223372036854775807 := hr0.2.1
  obtain ⟨ad, As, cs, e0, hx0, hx1, hcs, hrow⟩ := at_T49 hr0 a1 h0 h1
  subst e0
  generalize rd_T49 l0 a1 = el at *
  obtain ⟨op, set⟩ := el
  simp only at *
  have hb0 : Below w.heap.size w (w.alloc (.cells #[.int .i64 op, .slice As set.length cs] 49)) := below_alloc (Below.refl _ _) _
  obtain ⟨W0, hW0⟩ : ∃ W0, W0 = w.alloc (.cells #[.int .i64 op, .slice As set.length cs] 49) := ⟨_, rfl⟩
  rw [← hW0] at hb0
  have hsz : W0.heap.size = w.heap.size + 1 := by rw [hW0]; simp
  have hcell : ∀ W1, Below W0.heap.size W0 W1 → W1.cell? ⟨w.heap.size, 0, none⟩ = some (.int .i64 op) := by
    intro W1 hb
    have g1 : W0.cell? ⟨w.heap.size, 0, none⟩ = some (.int .i64 op) := by rw [hW0]; go_simp
    exact (hb.cell (World.block_lt_of_cell? W0 _ g1)).trans g1
  have HB0 := Aside0.mk hb0
  have HSZ := Aside0.mk (show w.heap.size ≤ W0.heap.size by omega)
  have HCell := Aside0.mk hcell
  have HC := Aside0.mk (fun (W : World) (hb : Below W0.heap.size W0 W) => Kd.C_below hr0 (hb0.trans (hb.mono hb0.size)))
  have HC0 := Aside0.mk hc0
  have IH := Aside0.mk ih
  have HW0 := Aside0.mk hW0
  clear hb0 hcell hr0 hc0 ih hsz hcs hrow
  subst hop
  have HAR := Aside0.mk har
  have b0 : (ar == 0) = false := by simpa using n0
  have b2 : (ar == 2) = false := by simpa using n2
  clear n0 n2
  have HT := Aside0.mk (fun (W : World) (hb : Below W0.heap.size W0 W) => (IH.out (some ad) c0 l0 (a1 - 1) a W (HC.out W hb) HC0.out ha).mono (fun (e : Ending) (w' : World) ⟨v, he, hn, h⟩ => (⟨v, he, Kd.N_mono (Kd.N_lower hn (Nat.le_trans HSZ.out hb.size)) (fun k_ hk => Nat.le_trans HSZ.out (Nat.le_trans hb.size hk)), hb.trans (h.mono hb.size)⟩ : ∃ v0 : Value, e = Ending.returned v0 ∧ Kd.N k49 49 w' w.heap.size (fun k_ => w.heap.size ≤ k_) v0 a ∧ Below W0.heap.size W0 w')))
  have HIA0 := Aside0.mk hiA
  have HNA0 := Aside0.mk hnA
  have HLEN := Aside0.mk hlen
  have HBND := Aside0.mk hbnd
  clear har ha hiA hnA HC IH HC0
  have HWS := Aside0.mk hW0
  clear hW0
  go_enter Try.func68, Try.ntmps68
  go_wp2_with (first | (go_at_call 81; with_reducible refine (spec_l5Arity.calls k 7 _ _ HAR.out).mono ?_; rintro e w' ⟨rfl, ⟨nd, rfl⟩⟩))
  rw [← HWS.out]
  refine (HT.out _ (by repeat (first | (with_reducible first | exact Below.refl _ _ | apply pw_below_drewN | apply below_drew1 | apply below_alloc)))).mono ?_
  rintro e w5 ⟨va, rfl, ho, hb⟩
  obtain ⟨Aa, ca, hva⟩ := Kd.N_slice ho
  subst hva
  have hC := (Kd.N_reads' ho).2.2
  have hca := (Kd.N_reads' ho).2.1
  have z0 : (0 : Int) ≤ (a.length : Int) - 1 := by omega
  have z1 : (a.length : Int) - 1 < (a.length : Int) := by omega
  obtain ⟨ad2, Al, cl, ea, hy0, _, _, _⟩ := at_T49 hC ((a.length : Int) - 1) z0 z1
  have z2 : (a.length : Int) - 1 ≤ (ca : Int) := by omega
  subst ea
  rw [show ((a.length : Int) - 1).toNat = a.length - 1 from by omega] at hy0
  have HIA := Aside0.mk (fun (W : World) (h : Below w5.heap.size w5 W) => spec_l5IsNil.calls (some ad2) ca a iA W (Kd.C_below hC h) hca HIA0.out)
  have HNA := Aside0.mk (fun (W : World) (h : Below w5.heap.size w5 W) => spec_l5IsNone.calls (some ad2) ca a nA W (Kd.C_below hC h) hca HNA0.out)
  have HN := Aside0.mk ho
  have HB5 := Aside0.mk (HB0.out.trans (hb.mono HB0.out.size))
  have hbox := HCell.out w5 hb
  have HW5 := Aside0.mk (Below.refl w5.heap.size w5)
  have hlb : ((rd_T49 a ((a.length : Int) - 1)).f0 == 7) = false := by simpa [lastO] using hla
  generalize (rd_T49 a ((a.length : Int) - 1)).f0 = lo at *
  clear ho hb hC hca
  go_wp2_with (first | (go_at_call 97; with_reducible refine (HIA.out _ ?side).mono ?_; (case side => repeat (first | (with_reducible first | exact Below.refl _ _ | apply pw_below_drewN | apply below_drew1 | apply below_alloc))); rintro e w' ⟨rfl, ⟨nd, rfl⟩⟩) | (go_at_call 98; with_reducible refine (HNA.out _ ?side).mono ?_; (case side => repeat (first | (with_reducible first | exact Below.refl _ _ | apply pw_below_drewN | apply below_drew1 | apply below_alloc))); rintro e w' ⟨rfl, ⟨nd, rfl⟩⟩) | ((with_reducible refine gate_dst (N := 88) rfl ?_); refine Kd.N_lit k49 _ 49 ?hg (N' := 88) ?hd (xs := ([(⟨7, []⟩ : S49)])) (inner := [.int .i64 7, .slice none 0 0]) (ok := (fun k_ => w5.heap.size ≤ k_)) (okp := (fun k_ => w5.heap.size ≤ k_)) ?hr ?hp (fun _ hk => hk) (by first | exact Nat.le_refl _ | exact Below.size (by repeat (first | (with_reducible first | exact Below.refl _ _ | apply pw_below_drewN | apply below_drew1 | apply below_alloc)))) (Below.refl _ _) (Nat.le_refl _) (by simp) ?_; (case hd => rfl); (case hg => rfl); (case hr => first | (go_simp; done) | (go_simp; rfl)); (case hp => exact (Reps.c2 (show Kd.FK k49 _ _ (⟨7, ([] : List Int)⟩ : S49) [.int .i64 7, .slice none 0 0] from (k49_mkF _ _ (⟨7, ([] : List Int)⟩ : S49) (Nat.le_refl _) (Kd.F_nil _ _ _))) (Reps.none _ _))); intro v11 w11 ho hb hg_ hnew_; clear hg_ hnew_; have HB11 := Aside0.mk (show Below w5.heap.size w5 w11 from Below.trans (by repeat (first | (with_reducible first | exact Below.refl _ _ | apply pw_below_drewN | apply below_drew1 | apply below_alloc))) hb); have HO11 := Aside0.mk (show Kd.N k49 49 w11 w5.heap.size (fun k_ => w5.heap.size ≤ k_) v11 [(⟨7, []⟩ : S49)] from Kd.N_lower ho (by first | exact Nat.le_refl _ | exact Below.size (by repeat (first | (with_reducible first | exact Below.refl _ _ | apply pw_below_drewN | apply below_drew1 | apply below_alloc))))); clear ho hb; obtain ⟨A11, c11, eo11⟩ := Kd.N_slice HO11.out; subst eo11) | ((with_reducible refine gate_builtin (b := .append) (xs := #[.tmp 84, .tmp 88]) rfl ?_); at_builtin; refine Kd.N_append_rows k49 (w0 := w) w.heap.size rfl (.tmp 84) (.tmp 88) 25 49 (.agg #[(.int .i64 0), (.slice none 0 0)]) 32 rfl Try.underlying25 info49 rfl (by decide) (by decide) (.slice (some ad2) a.length ca) a [(⟨7, []⟩ : S49)] _ _ _ (fun k_ => w.heap.size ≤ k_) (fun k_ => w5.heap.size ≤ k_) rfl rfl (Kd.N_below HN.out HB11.out) (Kd.N_F HO11.out) (fun k_ hk => ⟨Nat.le_trans HB5.out.size hk, fun e => Nat.not_lt.2 hk (Kd.N_lt HN.out k_ e.symm)⟩) (fun k_ hk => Nat.le_trans HB5.out.size (Nat.le_trans HB11.out.size hk)) (HB5.out.trans (HB11.out.mono HB5.out.size)) (Nat.le_trans HB5.out.size HB11.out.size) (by have := HBND.out; simp only [List.length_singleton]; omega) ?_; intro v12 w12 ho hb hg hat; clear hg hat; have HO12 := Aside0.mk ho; have HB12 := Aside0.mk hb; clear ho hb))
  go_ret
  exact ⟨_, rfl, HO12.out, HB12.out⟩
theorem tidy_all (k : Nat) : tidyIH k := by
  induction k with
  | zero => intro A0 c0 l0 a1 r w _ _ h; simp [spec_l5Tidy.f] at h
  | succ k ih =>
    intro A0 c0 l0 a1 r w hr0 hc0 h
    rw [spec_l5Tidy.f] at h
    split at h
    case isFalse => cases h
    rename_i h0
    split at h
    case isFalse => cases h
    rename_i h1
    obtain ⟨ar, har, h⟩ := Option.bind_eq_some_iff.mp h
    split at h
    case isTrue e0 =>
      subst e0
      exact tidy_leaf k ih A0 c0 l0 a1 r w hr0 hc0 h0 h1 har h
    rename_i n0
    split at h
    case isTrue e2 =>
      subst e2
      obtain ⟨fi, hfi, h⟩ := Option.bind_eq_some_iff.mp h
      obtain ⟨a, ha, h⟩ := Option.bind_eq_some_iff.mp h
      obtain ⟨b, hb, h⟩ := Option.bind_eq_some_iff.mp h
      exact tidy_two k ih A0 c0 l0 a1 fi a b r w hr0 hc0 h0 h1 har hfi ha hb h
    rename_i n2
    obtain ⟨a, ha, h⟩ := Option.bind_eq_some_iff.mp h
    split at h
    case isFalse => cases h
    rename_i hlen
    split at h
    case isFalse => cases h
    rename_i hbnd
    obtain ⟨iA, hiA, h⟩ := Option.bind_eq_some_iff.mp h
    obtain ⟨nA, hnA, h⟩ := Option.bind_eq_some_iff.mp h
    unfold tidy1O at h
    split at h
    case isTrue e6 =>
      have har1 : spec_l5Arity.f k 6 = some ar := by rw [← e6]; exact har
      obtain rfl := Option.some.inj h
      cases iA with
      | true => exact tidy_6a k ih A0 c0 l0 a1 ar nA a w hr0 hc0 h0 h1 e6 har1 n0 n2 ha hlen hbnd hiA hnA
      | false =>
        cases nA with
        | true => exact tidy_6b k ih A0 c0 l0 a1 ar a w hr0 hc0 h0 h1 e6 har1 n0 n2 ha hlen hbnd hiA hnA
        | false =>
          by_cases hla : lastO a = 6
          · rw [if_neg (by simp), if_neg (by simp), if_pos hla]
            exact tidy_6c k ih A0 c0 l0 a1 ar a w hr0 hc0 h0 h1 e6 har1 n0 n2 ha hlen hbnd hiA hnA hla
          · rw [if_neg (by simp), if_neg (by simp), if_neg hla]
            exact tidy_6d k ih A0 c0 l0 a1 ar a w hr0 hc0 h0 h1 e6 har1 n0 n2 ha hlen hbnd hiA hnA hla
    split at h
    case isTrue e7 =>
      have har1 : spec_l5Arity.f k 7 = some ar := by rw [← e7]; exact har
      obtain rfl := Option.some.inj h
      by_cases hla : lastO a = 7
      · rw [if_pos hla]
        exact tidy_7a k ih A0 c0 l0 a1 ar iA nA a w hr0 hc0 h0 h1 e7 har1 n0 n2 ha hlen hbnd hiA hnA hla
      · rw [if_neg hla]
        exact tidy_7b k ih A0 c0 l0 a1 ar iA nA a w hr0 hc0 h0 h1 e7 har1 n0 n2 ha hlen hbnd hiA hnA hla
    cases h
theorem spec_l5Tidy.calls (k : Nat) (A0 : Option Addr) (c0 : Nat) (l0 : List S49) (a1 : Int) (r : List S49) (w : World) (hr0 : Kd.C k49 w A0 l0.length l0) (hc0 : l0.length ≤ c0) (h : spec_l5Tidy.f k l0 a1 = some r) :
    Calls Try.prog 68 #[.slice A0 l0.length c0, .int .i64 a1] w fun e w' => ∃ v0_ : Value, e = .returned v0_ ∧ Kd.N k49 49 w' w.heap.size (fun k_ => w.heap.size ≤ k_) v0_ r ∧ Below w.heap.size w w' := tidy_all k A0 c0 l0 a1 r w hr0 hc0 h

end Go.Proofs.Ytlmpeaelpchokaa.HFnExactTidyRe
